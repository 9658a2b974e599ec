import Derived.Test.YtmlmfpikncogpaaGreatL43
namespace Go.Proofs.YtmlmfpikncogpaaGreat
open Go.RowKit
set_option linter.unusedSimpArgs false
set_option linter.unusedVariables false
set_option maxRecDepth 100000
set_option maxHeartbeats 16000000
theorem et (P:Program) (g o:Nat) (t:TypeId) (c:Nat×Nat):∀(d:List Value) (i:Nat) (a:Array Value) (w:World),w.heap[g]? =some (.cells a t c)->o+i+d.length<=c.1->o+i+d.length<=a.size->(∀v∈d,v.oneCell'=true)->
 (storeCells (U g o) d i).run P w=.ok () (w.setRow g (a.toList.take (o+i)++d++a.toList.drop (o+i+d.length)).toArray)
 | [],i,a,w,hg,_,_,_=>by
  simp only[storeCells,DA,D6,Fg,Du,Array.toArray_toList];rw[setRow_self w g a t c hg];rfl
 | v::rest,i,a,w,hg,hfz,hl,h1=>by
  have k:o+i<a.size:=by simp at hl;omega
  have f:((U g o):Addr).add i=(U g (o+i)):=by unfold Addr.add;split<;>simp_all
  have b:w.cell? (U g (o+i))=some a[o+i]:=by simp[World.cell?,hg,k]
  have h:w.frozen? (U g (o+i))=false:=by
   obtain⟨lo,l⟩:=c;simp only[World.frozen?,hg,Bool.and_eq_false_iff,decide_eq_false_iff_not];left;simp at hfz;omega
  have j:(store (((U g o):Addr).add i) v).run P w=.ok () (w.setRow g (a.setIfInBounds (o+i) v)):=by
   rw[f,run_store P w _ v _ (h1 v (by simp)),b];simp[h,setCell_eq_setRow w g (o+i) a t c v hg]
  have n:=et P g o t c rest (i+1) (a.setIfInBounds (o+i) v) (w.setRow g (a.setIfInBounds (o+i) v)) (setRow_heap w g a _ t _ hg) (by simp at hfz;omega) (by simp at hl ⊢;omega) (fun x m=>h1 x (by simp[m]));simp only[storeCells,DM,j,DH,n,setRow_setRow]
  congr 3
  have e:=list_seg_step a.toList (o+i) v rest (by simp at hl ⊢;omega);simpa [Array.toList_setIfInBounds,Ej] using e
def lO (w:World) (g:Nat) (e:TypeId) (n c:Nat) (l:List UInt8):Prop:=
 ∃a b,w.heap[g]? =some (.cells a e b)/\c<=b.1/\n<=c/\c<=maxLen/\a.size=c/\a.toList.take n=l.map bv/\l.length=n
theorem lO.keep {w w':World} {X:List Nat} {g:Nat} {e:TypeId} {n c:Nat} {l:List UInt8} (h:lO w g e n c l) (k:aa X w w') (i:g∉X):lO w' g e n c l:=by
 obtain⟨a,d,b,f⟩:=h;exact⟨a,d,by rw[k.block g (Dy.1 b).1 i];exact b,f⟩
theorem lO.cells {w:World} {g:Nat} {e:TypeId} {n c:Nat} {l:List UInt8} (h:lO w g e n c l):∀j v,(l.map bv)[j]? =some v->w.cell? (((U g 0):Addr).add j)=some v:=by
 intro j v a;obtain⟨b,d,f,_,_,_,_,i,_⟩:=h;rw[Go.WideShapes.add_plain,Dl,cell_of_row w g j b e d f];rw[<-i,Dx] at a
 split at a
 ·simpa using a
 cases a
theorem lO.bts {w:World} {g:Nat} {e:TypeId} {n c:Nat} {l:List UInt8} (h:lO w g e n c l):Bts w (V g) l:=
 .inr ⟨g,0,rfl,fun j v a=>by
  have:=h.cells j (bv v) (by rw[De,a];rfl);rwa [Go.WideShapes.add_plain] at this⟩
theorem lO.new (w:World) (e:TypeId) (s:ByteArray) (d:s.size<=maxLen):lO (Lib.bytesWorld w e s) w.heap.size e s.size (grownCap w s.size 0 e) s.data.toList:=by
 have a:=grownCap_ge w s.size 0 e;have c:(Lib.bytesCells w e s).size=grownCap w s.size 0 e:=by
  unfold Lib.bytesCells;rw[Array.size_append,Array.size_map,Array.size_replicate];have:s.data.size=s.size:=rfl;omega
 refine⟨_,_,Lib.bytesWorld_at_new w e s,?_,a,grownCap_le_maxLen w s.size 0 e d,c,?_,rfl⟩
 ·show _<=(Lib.bytesCells w e s).size;omega
 unfold Lib.bytesCells;rw[Array.toList_append,Array.toList_map];have:(s.data.toList.map fun b=>Value.int .u8 (b.toNat:Int)).length=s.size:=by rw[Df];rfl
 rw[<-this];exact ET
theorem pT {P:Program} {w:World} (t W:TypeId) (e:TypeId) (T:P.underlying t=some (.slice e)) (a:(P.info? e).map (fun i=>(i.zero,i.size,i.bytes))=some (some (.int .u8 0),1,1))
 (g n c:Nat) (l k:List UInt8) (h:lO w g e n c l) (A:Option Addr) (m C:Nat) (L:k.length=m) (a1:0<m) (hB:Bts w A k) (S:n+m<=140737488355328):
 ∃z c' w',(Builtin.append_ #[t,t] W #[.slice (V g) n c,.slice A m C]).run P w=.ok (.slice z (n+m) c') w'/\Bts w' z (l++k)/\n+m<=c'/\c'<=maxLen/\aa [g] w w'/\(fb z=[g]\/fb z=[w.heap.size]):=by
  cases B:P.info? e with
  | none=>simp[B] at a
  | some i=>
   simp only[B,EM,Option.some.injEq,Prod.mk.injEq] at a;obtain⟨hz,q,H⟩:=a;rcases hB with rfl | ⟨D,N,rfl,hc⟩
   ·simp at L;omega
   have d:∀j v,(k.map bv)[j]? =some v->w.cell? (((U D N):Addr).add j)=some v:=fun j v r=>by
    rw[De] at r;cases J:k[j]? with
    | none=>rw[J] at r;simp at r
    | some u=>rw[J] at r;simp at r;rw[Go.WideShapes.add_plain,<-r];exact hc j u J
   have x:(k.map bv).length=m*i.size:=by rw[Df,q,L,EU]
   have p:=h.cells;obtain⟨o,O,E,h2,h3,X,h5,Y,h7⟩:=h;have a0:g<w.heap.size:=(Dy.1 E).1;by_cases f:n+m<=c
   ·have R:=run_firstCells_some (P:=P) w i.size m (U D N) m C (k.map bv) x d;have y:=et P g n e O (k.map bv) 0 o w E (by rw[Df];omega) (by rw[Df];omega) (fun v r=>by obtain⟨b,_,rfl⟩:=Dt.1 r;rfl);refine⟨V g,c,w.setRow g (o.toList.take n++k.map bv++o.toList.drop (n+m)).toArray,?_,?_,f,X,?_,.inl rfl⟩
    ·simp only[Fg,Df,L] at y;rw[q] at R;simp[Builtin.append_,run_underlying T,sizeOf,typeInfo,B,q,Builtin.lenOf,f,R,Addr.add_lit,y]
    ·refine .inr ⟨g,0,rfl,fun j v s=>?_⟩;rw[Dl,cell_of_row _ g j _ e O (setRow_heap w g o _ e _ E)];rw[Y,<-DX,DW,DC (by rw[Df];exact(CV.1 s).1),De,s];rfl
    exact⟨rfl,rfl,rfl,by simp,fun k' _ K=>setRow_other w g k' _ (by simpa using K)⟩
   have M:(l.map bv).length=n*i.size:=by rw[Df,q,h7,EU]
   have hr:=run_append_grow (P:=P) w t W e i (.int .u8 0) T B hz (U g 0) n c (l.map bv) M p (U D N) m C (k.map bv) x d (by omega) (by omega) (by rw[H];exact growslice_fits (by omega) (by omega));refine⟨V w.heap.size,grownCap w (n+m) c e,_,hr,?_,grownCap_ge w (n+m) c e,grownCap_le_maxLen w (n+m) c e (by unfold maxLen;omega),?_,.inr rfl⟩
   ·refine .inr ⟨_,0,rfl,fun j v s=>?_⟩;have Q:=heap_alloc_new w.drew (Obj.cells ((l.map bv).toArray++(k.map bv).toArray++Builtin.zeroCells (Value.int .u8 0).cells (grownCap w (n+m) c e - (n+m))) e);have F:w.drew.heap.size=w.heap.size:=rfl;rw[F] at Q;rw[Dl,cell_of_row _ _ j _ e (0,0) Q];rw[Array.getElem?_append_left (by simp;have:=(CV.1 s).1;simp at this;omega)];rw[show (List.map bv l).toArray++(List.map bv k).toArray=((l++k).map bv).toArray by simp,DW,De,s];rfl
   exact(aa.refl [g] w).drew.alloc _
theorem l9 {P:Program} {w:World} {d:Array Oper} {rest:List Oper} {o:Oper} {a:Act} {Q:Exit->Act->World->Prop} (p:Region.wanted o (yielded d a.tmps)=true) (s x:Operand) (t:TypeId)
 (H:o.op=.call { callee:=.builtin .append,args:=#[s,x],argTypes:=#[t,t] }) (e:TypeId)
 (M:P.underlying t=some (.slice e)) (b:(P.info? e).map (fun i=>(i.zero,i.size,i.bytes))=some (some (.int .u8 0),1,1))
 (g n c:Nat) (l k:List UInt8) (L:a.eval s=.slice (V g) n c) (E:lO w g e n c l) (A:Option Addr) (m r:Nat) (N:a.eval x=.slice A m r) (F:k.length=m) (q:0<m) (C:Bts w A k)
 (j:n+m<=140737488355328)
 (h:∀f c' w',Z (Bts w' f (l++k))->n+m<=c'->c'<=9223372036854775807->Z (aa [g] w w')->Z (fb f=[g]\/fb f=[w.heap.size])->wpList P d Q rest (a.put o.dst (.slice f (n+m) c')) w'):wpList P d Q (o::rest) a w:=by
  refine aO p fun K D=>?_;obtain⟨f,c',w',J,u,v,y,z,B⟩:=pT (P:=P) (w:=w) t o.type e M b g n c l k E A m r F q C j;unfold Oper.wp execOp;simp only[H,resolve,invoke,builtin,DM,DZ,DH,Eb,D1,Er,L,N,J];exact D _ _ (h f c' w' (bZ u) v (by unfold maxLen at y;omega) (bZ z) (bZ B))
theorem sy (s:Dk.St) (i k:Nat) (b:List UInt8) (c:s.mem.length=64*s.n) (d:i≠k):Dk.sec (Dk.wr s (i:Int) b).1 k=Dk.sec s k/\(Dk.wr s (i:Int) b).1.mem.length=64*(Dk.wr s (i:Int) b).1.n:=by
 unfold Dk.wr
 split
 ·exact⟨rfl,c⟩
 rename_i hc;have f:i<s.n:=by
  have:=(Dk.rY (Classical.not_not.1 hc)).2.2;omega
 split
 ·exact⟨rfl,c⟩
 rename_i hb;have a:b.length=64:=Classical.not_not.1 hb;rw[EH]
 split
 ·have e:(b.take s.bytes.toNat).length<=64:=by rw[CY];omega
  refine⟨Dk.dH s i k _ e (by omega) d,?_⟩;show (splice _ _ _).length=64*s.n;rw[length_splice _ _ _ (by omega)];exact c
 refine⟨Dk.df s i k b _ _ _ a (by omega) d,?_⟩;show (splice _ _ _).length=64*s.n;rw[length_splice _ _ _ (by omega)];exact c
theorem tU:∀(f:Nat) (s:Dk.St) (i k:Nat) (d:List UInt8),s.mem.length=64*s.n->(k<i\/64*i+d.length<=64*k)->Dk.sec (Sn.sws s i f d).1 k=Dk.sec s k/\(Sn.sws s i f d).1.mem.length=64*(Sn.sws s i f d).1.n
 | 0,s,i,k,d,hm,_=>⟨rfl,hm⟩
 | f+1,s,i,k,d,hm,hk=>by
  by_cases a:d=[]
  ·subst a;rw[Sn.gX];exact⟨rfl,hm⟩
  have g:=E5.2 a;obtain⟨b,c⟩:=sy s i k (Sn.pad (d.take 64)) hm (by omega);by_cases h:(Dk.wr s i (Sn.pad (d.take 64))).2=0
  ·rw[Sn.jK a h];have e:=tU f (Dk.wr s i (Sn.pad (d.take 64))).1 (i+1) k (d.drop 64) c (by rw[Da];omega);exact⟨e.1.trans b,e.2⟩
  rw[Sn.gY a h];exact⟨b,c⟩
theorem mQ (s:Dk.St) (ep k:Nat) (b:List UInt8) (h:s.n=60) (g:s.mem.length=64*s.n) (j:b.length<=896) (l:31<=k):Dk.sec (Sn.bG s ep b).1 k=Dk.sec s k:=by
 have i:Sn.aS s.n (1 - Sn.root s)<=17:=by rw[h];unfold Sn.aS;split<;>decide
 obtain⟨a,d⟩:=tU b.length s (Sn.aS s.n (1 - Sn.root s)) k b g (.inr (by omega));obtain⟨c,e⟩:=sy (Sn.sws s (Sn.aS s.n (1 - Sn.root s)) b.length b).1 (1+(1 - Sn.root s)) k (Sn.pad (Sn.hdr ep b)) d (by omega);obtain⟨f,_⟩:=sy (Dk.wr (Sn.sws s (Sn.aS s.n (1 - Sn.root s)) b.length b).1 ((1+(1 - Sn.root s):Nat):Int) (Sn.pad (Sn.hdr ep b))).1 0 k (Sn.pad [UInt8.ofNat (1 - Sn.root s)]) e (by omega);unfold Sn.bG
 split
 ·rfl
 split
 ·rfl
 split
 ·rfl
 split
 ·exact a
 split
 ·exact c.trans a
 exact(f.trans c).trans a
theorem gW:∀(f:Nat) (s:Dk.St) (i:Nat) (d:List UInt8),0<=s.writes->0<=(Sn.sws s i f d).1.writes/\(Sn.sws s i f d).1.writes<=s.writes+f
 | 0,s,i,d,h=>⟨h,by show s.writes<=s.writes+((0:Nat):Int);omega⟩
 | f+1,s,i,d,h=>by
  by_cases a:d=[]
  ·subst a;rw[Sn.gX];exact⟨h,by dsimp only;omega⟩
  obtain⟨c,g⟩:=Sn.de s (i:Int) (Sn.pad (d.take 64)) h;by_cases b:(Dk.wr s i (Sn.pad (d.take 64))).2=0
  ·rw[Sn.jK a b];obtain⟨e,j⟩:=gW f (Dk.wr s i (Sn.pad (d.take 64))).1 (i+1) (d.drop 64) c;exact⟨e,by omega⟩
  rw[Sn.gY a b];exact⟨c,by omega⟩
theorem gi (s:Dk.St) (ep:Nat) (b:List UInt8) (h:0<=s.writes):0<=(Sn.bG s ep b).1.writes/\(Sn.bG s ep b).1.writes<=s.writes+(b.length+2:Nat):=by
 obtain⟨a,e⟩:=gW b.length s (Sn.aS s.n (1 - Sn.root s)) b h;obtain⟨c,f⟩:=Sn.de (Sn.sws s (Sn.aS s.n (1 - Sn.root s)) b.length b).1 ((1+(1 - Sn.root s):Nat):Int) (Sn.pad (Sn.hdr ep b)) a;obtain⟨d,g⟩:=Sn.de (Dk.wr (Sn.sws s (Sn.aS s.n (1 - Sn.root s)) b.length b).1 ((1+(1 - Sn.root s):Nat):Int) (Sn.pad (Sn.hdr ep b))).1 0 (Sn.pad [UInt8.ofNat (1 - Sn.root s)]) c;unfold Sn.bG
 split
 ·exact⟨h,by dsimp only;omega⟩
 split
 ·exact⟨h,by dsimp only;omega⟩
 split
 ·exact⟨h,by dsimp only;omega⟩
 split
 ·exact⟨a,by omega⟩
 split
 ·exact⟨c,by omega⟩
 exact⟨d,by omega⟩
theorem mG (ep:Nat):∀(f:Nat) (s:Dk.St) (i:Nat) (d:List UInt8),0<=s.writes->0<=(Wa.wrs s i ep f d).1.writes/\(Wa.wrs s i ep f d).1.writes<=s.writes+f
 | 0,s,i,d,h=>⟨h,by show s.writes<=s.writes+((0:Nat):Int);omega⟩
 | f+1,s,i,d,h=>by
  by_cases a:d=[]
  ·subst a;rw[Wa.ml];exact⟨h,by dsimp only;omega⟩
  obtain⟨c,g⟩:=Sn.de s (i:Int) (Wa.bq (d.take 59) ep) h;by_cases b:(Dk.wr s i (Wa.bq (d.take 59) ep)).2=0
  ·rw[Wa.pF a b];obtain⟨e,j⟩:=mG ep f (Dk.wr s i (Wa.bq (d.take 59) ep)).1 (i+1) (d.drop 59) c;exact⟨e,by omega⟩
  rw[Wa.mm a b];exact⟨c,by omega⟩
theorem mJ {s:Dk.St} {i:Int} {b:List UInt8} (h:(Dk.wr s i b).2=0):(Dk.wr s i b).1.down=s.down:=by
 unfold Dk.wr at h ⊢
 split
 ·rfl
 rename_i h1;rw[if_neg h1] at h
 split
 ·rfl
 rename_i h2;rw[if_neg h2] at h
 split
 ·rename_i h3;rw[if_pos h3] at h;cases h
 rfl
theorem pG {s:Dk.St} {i:Int} {b:List UInt8} (a:s.down=false) (h:(Dk.wr s i b).1.down=true):(Dk.wr s i b).1.left=0:=by
 unfold Dk.wr at h ⊢
 split
 ·rename_i h1;rw[if_pos h1] at h;rw[a] at h;cases h
 rename_i h1;rw[if_neg h1] at h
 split
 ·rename_i h2;rw[if_pos h2] at h;rw[a] at h;cases h
 rename_i h2;rw[if_neg h2] at h
 split
 ·rfl
 rename_i h3;rw[if_neg h3] at h;dsimp only at h;rw[a] at h;cases h
theorem qM:∀(f:Nat) (s:Dk.St) (i:Nat) (d:List UInt8),s.down=false->((Sn.sws s i f d).2=0->(Sn.sws s i f d).1.down=false)/\((Sn.sws s i f d).1.down=true->(Sn.sws s i f d).1.left=0)
 | 0,s,i,d,h=>⟨fun _=>h,fun a=>by have b:s.down=true:=a;rw[h] at b;cases b⟩
 | f+1,s,i,d,h=>by
  by_cases e:d=[]
  ·subst e;rw[Sn.gX];exact⟨fun _=>h,fun a=>by have b:s.down=true:=a;rw[h] at b;cases b⟩
  by_cases c:(Dk.wr s i (Sn.pad (d.take 64))).2=0
  ·rw[Sn.jK e c];exact qM f _ (i+1) (d.drop 64) ((mJ c).trans h)
  rw[Sn.gY e c];exact⟨fun a=>absurd a c,fun a=>pG h a⟩
theorem qN {s:Dk.St} {ep:Nat} {b:List UInt8} (h:s.down=false) (a:(Sn.bG s ep b).1.down=true):(Sn.bG s ep b).1.left=0:=by
 obtain⟨d,e⟩:=qM b.length s (Sn.aS s.n (1 - Sn.root s)) b h;unfold Sn.bG at a ⊢
 split
 ·rename_i c1;rw[if_pos c1] at a;rw[h] at a;cases a
 rename_i c1;rw[if_neg c1] at a
 split
 ·rename_i c2;rw[if_pos c2] at a;rw[h] at a;cases a
 rename_i c2;rw[if_neg c2] at a
 split
 ·rename_i c3;rw[if_pos c3] at a;rw[h] at a;cases a
 rename_i c3;rw[if_neg c3] at a
 split
 ·rename_i c4;rw[if_pos c4] at a;exact e a
 rename_i c4;rw[if_neg c4] at a;have c:=d (Classical.not_not.1 c4)
 split
 ·rename_i c5;rw[if_pos c5] at a;exact pG c a
 rename_i c5;rw[if_neg c5] at a;exact pG ((mJ (Classical.not_not.1 c5)).trans c) a
theorem mT {S T:Nat->List UInt8} {ep:Nat}:∀(k i:Nat),(∀j,i<=j->T j=S j)->Wa.cT T ep k i=Wa.cT S ep k i
 | 0,_,_=>rfl
 | k+1,i,h=>by
  unfold Wa.cT;rw[h i (C9 i),mT k (i+1) (fun j a=>h j (by omega))]
theorem fq {s:Dk.St} (h:s.down=false):Dk.bB s=s:=by
 cases s;unfold Dk.bB;dsimp only at h ⊢;rw[h]
structure Sd (E:Nat) (s:Dk.St) (ts:List TS) (f:Nat->Int) (ep:Nat) (cs:List Cm):Prop where
 n:s.n=60
 len:s.mem.length=64*s.n
 root:Sn.root s<=1
 e0:1<=ep
 e1:ep<=E
 ex:∃ts0 f0,Sn.dt (Dk.bB s)=(stB ts0 f0,ep,0)/\f9 f0/\Gd 52 ts0/\eh ts0 f0 cs ts f
 few:cs.length<=500
 fit:(aN ts).length<=832
def On (E:Nat) (s:Dk.St) (ts:List TS) (f:Nat->Int):Prop:=∃ep cs,Sd E s ts f ep cs/\Wa.cg (Wa.cT (Dk.sec s) ep 29 31)=cs.map Cm.bytes
def Lv (E:Nat) (s:Dk.St) (ts:List TS) (f:Nat->Int) (ep:Nat) (L:List UInt8):Prop:=s.down=false/\L.length<=1711/\Wa.su (Dk.sec s) 31 29 ep L/\∃cs,Sd E s ts f ep cs/\L=Wa.ez (cs.map Cm.bytes)
theorem tH {s:Dk.St} (b:s.n=60) (a:Sn.root s<=1):Sn.bad (Dk.bB s)=0:=Sn.ql rfl (by show 7<=s.n;omega) (by show s.n<=65536;omega) a
theorem Sd.same {E:Nat} {s t:Dk.St} {ts:List TS} {f:Nat->Int} {ep:Nat} {cs:List Cm} (h:Sd E s ts f ep cs) (c:t.n=s.n) (q:t.mem.length=64*t.n) (d:∀k,k<31->Dk.sec t k=Dk.sec s k):Sd E t ts f ep cs:=by
 have l:Sn.root t=Sn.root s:=by unfold Sn.root;rw[d 0 (by decide)]
 have a:=h.n;have b:Sn.root t<=1:=by rw[l];exact h.root
 refine⟨c.trans h.n,q,b,h.e0,h.e1,?_,h.few,h.fit⟩;obtain⟨e,m,g,i⟩:=h.ex;refine⟨e,m,?_,i⟩;rw[<-g];refine Sn.mW (tH h.n h.root) (tH (c.trans h.n) b) c l (d _ ?_) (fun j o=>d _ ?_)
 ·show 1+Sn.root s<31;have:=h.root;omega
 have g:Sn.aS s.n (Sn.root s)<=17:=by rw[a];unfold Sn.aS;split<;>decide
 have i:Sn.area s.n=14:=by rw[a];rfl
 have p:j<Sn.area s.n:=o;show Sn.aS s.n (Sn.root s)+j<31;omega
theorem On.same {E:Nat} {s t:Dk.St} {ts:List TS} {f:Nat->Int} (h:On E s ts f) (c:t.n=s.n) (b:t.mem=s.mem):On E t ts f:=by
 obtain⟨ep,cs,a,e⟩:=h;have d:Dk.sec t=Dk.sec s:=by funext k;unfold Dk.sec;rw[b]
 exact⟨ep,cs,a.same c (by rw[b,c];exact a.len) (fun k _=>by rw[d]),by rw[d];exact e⟩
theorem Lv.same {E:Nat} {s t:Dk.St} {ts:List TS} {f:Nat->Int} {ep:Nat} {L:List UInt8} (h:Lv E s ts f ep L) (c:t.n=s.n) (b:t.mem=s.mem) (j:t.down=false):Lv E t ts f ep L:=by
 obtain⟨l,e,g,cs,a,i⟩:=h;have d:Dk.sec t=Dk.sec s:=by funext k;unfold Dk.sec;rw[b]
 exact⟨j,e,by rw[d];exact g,cs,a.same c (by rw[b,c];exact a.len) (fun k _=>by rw[d]),i⟩
theorem On.mono {E b:Nat} {s:Dk.St} {ts:List TS} {f:Nat->Int} (h:On E s ts f) (d:E<=b):On b s ts f:=by
 obtain⟨ep,cs,a,c⟩:=h;exact⟨ep,cs,⟨a.n,a.len,a.root,a.e0,Dc a.e1 d,a.ex,a.few,a.fit⟩,c⟩
theorem Lv.mono {E b:Nat} {s:Dk.St} {ts:List TS} {f:Nat->Int} {ep:Nat} {L:List UInt8} (h:Lv E s ts f ep L) (i:E<=b):Lv b s ts f ep L:=by
 obtain⟨c,d,e,cs,a,g⟩:=h;exact⟨c,d,e,cs,⟨a.n,a.len,a.root,a.e0,Dc a.e1 i,a.ex,a.few,a.fit⟩,g⟩
theorem kT:∀ {rs:List (List UInt8)} {r:List UInt8},r∈rs->r.length+4<=(Wa.ez rs).length
 | x::rs,r,h=>by
  have e:Wa.ez (x::rs)=Wa.enc x++Wa.ez rs:=rfl;rw[e,CU,Wa.cQ];rcases Db.1 h with rfl | h
  ·omega
  have:=kT h;omega
theorem po:∀(rs:List (List UInt8)),4*rs.length<=(Wa.ez rs).length
 | []=>C3 _
 | x::rs=>by
  have e:Wa.ez (x::rs)=Wa.enc x++Wa.ez rs:=rfl;have:=po rs;rw[e,CU,Wa.cQ,Dj];omega
theorem Lv.on {E:Nat} {s:Dk.St} {ts:List TS} {f:Nat->Int} {ep:Nat} {L:List UInt8} (h:Lv E s ts f ep L) (i:E<=2000000):On E s ts f:=by
 obtain⟨e,g,c,cs,a,b⟩:=h;have j:=a.e1;refine⟨ep,cs,a,?_⟩;rw[Wa.pM c (by omega) (by omega),b];have:=Wa.fT (cs.map Cm.bytes) [] (fun r d=>by have:=kT d;rw[<-b] at this;omega);rw[DA] at this;rw[this,Wa.dg (by simp),DA]
theorem uH {E m:Nat} {s:Dk.St} {ts:List TS} {f:Nat->Int} {q:Dk.St×Int} (i:s.n=60) (c:s.mem.length=64*s.n) (o:Sn.bad s=0) (u:¬Wa.lN s 31 29 m) (l:1<=m) (e:m<=E) (w:E<=2000000) (d:f9 f) (p:Gd 52 ts) (b:(aN ts).length<=832)
 (t:q=Sn.bG s m (stB ts f)) (a:Sn.zp s m (stB ts f) q):Lv E q.1 ts f m []:=by
  have x:(stB ts f).length=64+(aN ts).length:=by unfold stB;rw[CU,eX]
  obtain⟨v,k⟩:=Sn.sG o a (by omega) (by omega) (by omega);have g:=a.down;refine⟨g,C3 _,fun j r=>?_,[],⟨a.n.trans i,by rw[a.len,a.n],by rw[a.root_];omega,l,e,⟨ts,f,?_,d,p,rfl,rfl⟩,C3 _,b⟩,rfl⟩
  ·rw[if_neg (by simp),t,mQ s m _ _ i c (by omega) (by omega)];exact fun h=>u ⟨j,r,h⟩
  rw[fq g];exact k
theorem On.renew {E m:Nat} {s:Dk.St} {ts:List TS} {f:Nat->Int} {ep:Nat} {cs:List Cm} {q:Dk.St×Int} (a:Sd E s ts f ep cs) (D:Wa.cg (Wa.cT (Dk.sec s) ep 29 31)=cs.map Cm.bytes) (r:s.down=false) (K:E+30<=2000000)
 (H:Wa.em (Wa.lN s 31 29) (ep+1) m) (p:q=Sn.bG s m (stB ts f)):(q.2=0/\q.1.down=false/\(s.left=0->q.1.left=0)/\Lv (E+30) q.1 ts f m [])\/(q.2=15/\q.1.down=true/\s.left≠0/\q.1.left=0/\On (E+30) q.1 ts f):=by
  have F:=a.e1;obtain⟨M,N,x⟩:=jR H (by omega);have L:(stB ts f).length=64+(aN ts).length:=by unfold stB;rw[CU,eX]
  have e:=a.fit;have d:Sn.bad s=0:=by have:=tH a.n a.root;rwa [fq r] at this
  obtain⟨w,A,i,y,z,v⟩:=a.ex;have k:=v.nums y;have o:=v.gd z;have C:Sn.hEp (Dk.sec s (1+Sn.root s))=ep:=by
   rw[fq r] at i;unfold Sn.dt at i;rw[if_neg (by rw[d];simp)] at i
   split at i
   ·injection i with _ h;injection h with h _;have:=a.e0;omega
   split at i
   ·injection i with _ h;injection h with h _;have:=a.e0;omega
   split at i
   ·injection i with _ h;injection h with h _;have:=a.e0;omega
   injection i with _ h;injection h with h _
  have B:Sn.area s.n=14:=by rw[a.n];rfl
  have c:=Sn.j3 (s:=s) (ep:=m) (b:=stB ts f) d a.len (by rw[C];omega) (by rw[B];omega);rw[<-p] at c;rcases c with c | c
  ·exact .inl ⟨c.ok,c.down,c.left,uH a.n a.len d x (by omega) (by omega) (by omega) k o e p c⟩
  refine .inr ⟨c.err,c.down,c.left,by rw[p];exact qN r (by rw[<-p];exact c.down),?_⟩;have l:∀j,31<=j->Dk.sec q.1 j=Dk.sec s j:=fun j u=>by rw[p];exact mQ s m j _ a.n a.len (by omega) u
  have g:Sn.root q.1<=1:=by rcases c.or_ with ⟨h,_⟩ | ⟨h,_⟩<;>have:=a.root<;>omega
  have J:=a.e0;rcases(Sn.sE d c (by omega) (by omega) (by omega)).2 with h | h
  ·refine⟨ep,cs,⟨c.n.trans a.n,by rw[c.len,c.n],g,a.e0,by omega,⟨w,A,?_,y,z,v⟩,a.few,e⟩,?_⟩
   ·rw[h];rwa [fq r] at i
   rw[mT 29 31 l];exact D
  refine⟨m,[],⟨c.n.trans a.n,by rw[c.len,c.n],g,by omega,by omega,⟨ts,f,h,k,o,rfl,rfl⟩,C3 _,e⟩,?_⟩;have t:Wa.su (Dk.sec q.1) 31 29 m []:=fun j u=>by
   rw[if_neg (by simp),l _ (by omega)];exact fun h=>x ⟨j,u,h⟩
  rw[Wa.pM t (by simp) (by omega),Wa.dg (by simp)];rfl
theorem mr {s:Dk.St} (b:s.mem.length=64*s.n) {k:Nat} (a:k<s.n):(Dk.sec s k).length=64:=by
 unfold Dk.sec;rw[CY,Da];omega
theorem Lv.commit {E:Nat} {s:Dk.St} {ts b:List TS} {f:Nat->Int} {ep:Nat} {L D:List UInt8} {c:Cm} {q:Dk.St×Int} (h:Lv E s ts f ep L) (hE:E<=2000000) (S:uU ts f c b) (u:(aN b).length<=832) (i:L.length+(c.bytes.length+4)<=1711)
 (w:D=L.drop (59*(L.length/59))++Wa.enc c.bytes) (R:q=Wa.wrs s (31+L.length/59) ep D.length D):
 (q.2=0/\q.1.down=false/\Lv E q.1 b (upd f c.k c.txn) ep (L++Wa.enc c.bytes))\/(q.2=15/\q.1.down=true/\(On E q.1 ts f\/On E q.1 b (upd f c.k c.txn))):=by
  obtain⟨O,h2,B,cs,e,l⟩:=h;have he:=e.e1;have hn:=e.n;have y:(L++Wa.enc c.bytes).length=L.length+(c.bytes.length+4):=by rw[CU,Wa.cQ]
  have P:D.length=L.length - 59*(L.length/59)+(c.bytes.length+4):=by rw[w,CU,Da,Wa.cQ]
  obtain⟨X,Y,r1,r2,r3,r4⟩:=e.ex;have g:=po (cs.map Cm.bytes);rw[<-l,Df] at g;have a:=Wa.oQ ep D.length s (31+L.length/59) D O e.len (C9 _) (by omega);rw[<-R] at a;have v:∀t:Dk.St,t.n=s.n->t.mem.length=64*s.n->(∀k,k<31->Dk.sec t k=Dk.sec s k)->Sd E t b (upd f c.k c.txn) ep (cs++[c]):=fun t A C F=>by
   have:=e.same A (by rw[A];exact C) F;obtain⟨z,N,H,J,K,M⟩:=this.ex;exact⟨this.n,this.len,this.root,this.e0,this.e1,⟨z,N,H,J,K,M.snoc S⟩,by rw[CU,DE];omega,u⟩
  have p:L++Wa.enc c.bytes=Wa.ez ((cs++[c]).map Cm.bytes):=by rw[DX,List.map_singleton,Wa.wt,l]
  rcases a with a | a
  ·refine .inl ⟨a.ok,a.down,a.down,by rw[y];exact i,Wa.rt B (by rw[<-w];exact a.at_) (by rw[<-w];exact a.off),cs++[c],v q.1 a.n a.len (fun k Q=>a.off k (.inl (by omega))),p⟩
  refine .inr ⟨a.err,a.down,?_⟩;obtain⟨m,t1,t2,t3,W⟩:=a.ex;have d:∀k,k<31->Dk.sec q.1 k=Dk.sec s k:=fun k Q=>W k (.inl (by omega));have o:=Wa.vm (s:=s) (q:=q) (fi:=31) (co:=29) (ep:=ep) (rs:=cs.map Cm.bytes) (r:=c.bytes) (by rw[<-l];exact B) (by rw[<-l,<-w];exact a) (by rw[<-l];omega) (by omega) (fun j hj=>mr e.len (by omega)) (fun x T=>by have:=kT T;rw[<-l] at this;omega) (by omega);rcases o with o | o
  ·exact .inl ⟨ep,cs,e.same a.n (by rw[a.n];exact a.len) d,o⟩
  exact .inr ⟨ep,cs++[c],v q.1 a.n a.len d,by rw[o,DX,List.map_singleton]⟩
end Go.Proofs.YtmlmfpikncogpaaGreat
