import Derived.Test.YtmlmfpikncogpaaGreatL25
namespace Go.Proofs.YtmlmfpikncogpaaGreat
open Go.RowKit
set_option linter.unusedSimpArgs false
set_option linter.unusedVariables false
set_option maxRecDepth 100000
set_option maxHeartbeats 16000000
def pq {α:Type} (key:α->Int) (id:Int) (e:α) (l:List α):List α:=l.filter (fun r=>decide (key r<id))++e::l.filter (fun r=>decide (id<key r))
def pst {α:Type} (key:α->Int) (id:Int) (e:α) (l:List α):List α:=if l.any (fun r=>decide (id<=key r)) then pq key id e l else l
section
variable {α:Type} {key:α->Int} {id:Int} {e x:α} {l:List α}
theorem qo (h:l.any (fun r=>decide (id<=key r))=false):∀y∈l,key y<id:=fun y a=>by
 have:=EP.1 h y a;simp at this;exact this
theorem jS (h:∀y∈l,key y<id):l.filter (fun r=>decide (key r<id))=l/\l.filter (fun r=>decide (id<key r))=[]:=
 ⟨Ek.2 (fun y a=>by simpa using h y a),List.filter_eq_nil_iff.2 (fun y a=>by have:=h y a;simp;omega)⟩
theorem Ck (h:l.any (fun r=>decide (id<=key r))=false) (b:key x<id):(l++[x]).any (fun r=>decide (id<=key r))=false/\pst key id e (l++[x])=pst key id e l++[x]:=by
 have a:(l++[x]).any (fun r=>decide (id<=key r))=false:=by
  rw[E8,h];simp;exact b
 refine⟨a,?_⟩;unfold pst;rw[if_neg (by rw[a];decide),if_neg (by rw[h];decide)]
theorem Cj (h:l.any (fun r=>decide (id<=key r))=false) (d:id<key x):(l++[x]).any (fun r=>decide (id<=key r))=true/\pst key id e (l++[x])=pst key id e l++[e]++[x]:=by
 have a:(l++[x]).any (fun r=>decide (id<=key r))=true:=by
  rw[E8,h];simp;omega
 refine⟨a,?_⟩;obtain⟨b,c⟩:=jS (qo h);unfold pst pq;rw[if_pos a,if_neg (by rw[h];decide),Eh,Eh,b,c,DF,if_neg (by simp;omega),DF,if_pos (by simpa using d)];simp
theorem Ci (h:l.any (fun r=>decide (id<=key r))=false) (d:key x=id):(l++[x]).any (fun r=>decide (id<=key r))=true/\pst key id e (l++[x])=pst key id e l++[e]:=by
 have a:(l++[x]).any (fun r=>decide (id<=key r))=true:=by
  rw[E8,h];simp;omega
 refine⟨a,?_⟩;obtain⟨b,c⟩:=jS (qo h);unfold pst pq;rw[if_pos a,if_neg (by rw[h];decide),Eh,Eh,b,c,DF,if_neg (by simp;omega),DF,if_neg (by simp;omega)];simp
theorem Ch (h:l.any (fun r=>decide (id<=key r))=true) (d:∀y∈l,key y<key x):(l++[x]).any (fun r=>decide (id<=key r))=true/\id<key x/\pst key id e (l++[x])=pst key id e l++[x]:=by
 have a:(l++[x]).any (fun r=>decide (id<=key r))=true:=by rw[E8,h];rfl
 obtain⟨y,f,c⟩:=Fo.1 h;have g:=d y f;have b:id<key x:=by simp at c;omega
 refine⟨a,b,?_⟩;unfold pst pq;rw[if_pos a,if_pos h,Eh,Eh,DF,if_neg (by simp;omega),DF,if_pos (by simpa using b)];simp
theorem zT (h:l.any (fun r=>decide (id<=key r))=true):pst key id e l=pq key id e l:=by unfold pst;rw[if_pos h]
theorem xK (h:l.any (fun r=>decide (id<=key r))=false):pst key id e l++[e]=pq key id e l:=by
 obtain⟨a,b⟩:=jS (qo h);unfold pst pq;rw[if_neg (by rw[h];decide),a,b]
end
theorem ux {id:Int} {row:List Val}:∀ {l:Tab},fN l->gG id row (bS id l)=pq (fun x=>x.1) id (id,row) l
 | [],_=>rfl
 | x::l,h=>by
  obtain⟨g,i⟩:=DJ.1 h;have e:=ux (id:=id) (row:=row) i;unfold pq at e ⊢;by_cases f:x.1=id
  ·have d:bS id (x::l)=bS id l:=by unfold bS;rw[DF,if_neg (by simp[f])]
   rw[d,e,DF,if_neg (by simp;omega),DF,if_neg (by simp;omega)]
  have d:bS id (x::l)=x::bS id l:=by unfold bS;rw[DF,if_pos (by simpa using f)]
  rw[d];by_cases b:x.1<id
  ·unfold gG;rw[if_pos b,e,DF,if_pos (by simpa using b),DF,if_neg (by simp;omega),D3]
  have c:∀y∈l,id<y.1:=fun y a=>by have:=g y a;omega
  have j:bS id l=l:=Ek.2 (fun y a=>by have:=c y a;simp;omega);unfold gG;rw[if_neg b,if_pos (by omega),j,DF,if_neg (by simpa using b),DF,if_pos (by simp;omega),
   List.filter_eq_nil_iff.2 (fun y a=>by have:=c y a;simp;omega),Ek.2 (fun y a=>by simpa using c y a),Dm]
theorem aJ.append {α β:Type} {R:α->β->Prop}:∀ {l:List α} {k:List β} {b:List α} {a:List β},aJ R l k->aJ R b a->aJ R (l++b) (k++a)
 | [],[],_,_,_,h=>h
 | _::_,_::_,_,_,h,h'=>⟨h.1,aJ.append h.2 h'⟩
 | [],_::_,_,_,h,_=>h.elim
 | _::_,[],_,_,h,_=>h.elim
theorem Bv {w:World} {X:List Nat} {cols:Nat} {rs:List aD} {l:Tab} {id:Int} {e:aD} {row:List Val} (h:aJ (ei w X cols) rs l) (a:ei w X cols e (id,row)):aJ (ei w X cols) (pq aD.k id e rs) (pq (fun x=>x.1) id (id,row) l):=by
 unfold pq;exact(h.filter (fun r _ x _ h=>by rw[h.1])).append ⟨a,h.filter (fun r _ x _ h=>by rw[h.1])⟩
theorem rf {rs:List aD} (h:rs.Pairwise (fun a b=>a.k<b.k)) {j:Nat} {r:aD} (d:rs[j]? =some r):∀y∈rs.take j,y.k<r.k:=fun y e=>by
 have c:rs=rs.take j++r::rs.drop (j+1):=by rw[<-dS d,Du]
 rw[c] at h;exact(EF.1 h).2.2 y e r (by simp)
theorem Bo (w:World) (X:List Nat) (cols:Nat):Calls Tryz.prog 49 #[I (cols:Int)] w (f8 w X cols [] 1):=by
 go_enter Tryz.func49,Tryz.ntmps49;go_wp2_with fail;refine bodyPost_ret (v:=.agg #[I (cols:Int),.slice none 0 0,I 1]) (jN (g:=w.heap.size) (t:=115) rfl rfl (Blk.new w 115 _) Tryz.underlying115 rfl (by kernel_rfl)) rfl ?_;exact⟨none,0,0,rfl,rfl,bZ (gg.nil _ _ _ _),bZ ((aa.refl [] w).alloc _)⟩
theorem qX {w:World} {X:List Nat} {cols:Nat}:∀ {rs:List aD} {l:Tab},aJ (ei w X cols) rs l->fN l->rs.Pairwise (fun a b=>a.k<b.k)
 | [],[],_,_=>List.Pairwise.nil
 | r::rs,x::l,h,ha=>by
  obtain⟨c,d⟩:=DJ.1 ha;refine DJ.2 ⟨fun b f=>?_,qX h.2 d⟩;obtain⟨y,g,e⟩:=h.2.left b f;rw[h.1.1,e.1];exact c y g
 | [],_::_,h,_=>h.elim
 | _::_,[],h,_=>h.elim
theorem Bn (w:World) (X:List Nat) (cols:Nat) (A:Option Addr) (n c:Nat) (b id:Int) (l:Tab) (hl:l.length=n) (hI:gg w X A cols l) (hn:n<=1000000) (hX:∀x∈X,x<w.heap.size) (ha:fN l)
 (B:Option Addr) (u C:Nat) (row:List Val) (a9:row.length=u) (hN:ah w X B row) (hm:u<=10000) (bk:1<=id) (bl:id<=4611686018427387904) (ak:eq cols row=true) (c0:b<=4611686018427387905):
 Calls Tryz.prog 68 #[.agg #[I (cols:Int),.slice A n c,I b],I id,.slice B u C] w (fun e w'=>∃v,e=.returned (.tuple #[v,I 0])/\f8 w X cols (fu id row l) (max b (id+1)) (.returned v) w'):=by
  obtain⟨i0,hi,K,L,M⟩:=info_parts uz;obtain⟨rs,hR,hC⟩:=hI;have a3:rs.length=n:=by rw[hR.len,hl]
  obtain⟨b2,an⟩:=d8.1 ak;have kb:aa [] w ((w.alloc (.cells #[I (cols:Int),.slice A n c,I b] 115)).alloc (.cells #[I 0,.slice none 0 0,I 0] 115)):=((aa.refl [] w).alloc _).alloc _;have B0:=(Blk.new w 115 #[I (cols:Int),.slice A n c,I b]).alloc (.cells #[I 0,.slice none 0 0,I 0] 115);have B1:=Blk.new (w.alloc (.cells #[I (cols:Int),.slice A n c,I b] 115)) 115 #[I 0,.slice none 0 0,I 0];have bh:(w.alloc (.cells #[I (cols:Int),.slice A n c,I b] 115)).heap.size=w.heap.size+1:=by simp
  rw[bh] at B1;have a8:=hC.shift (X':=X) kb (by simp) (fun x hx=>.inl hx);have yb:=B0.cell;have CS:Z (∀W,aa [] w W->Calls Tryz.prog 65 #[I (cols:Int),.slice B u C] W fun e w'=>e=.returned (.bool true)/\Z (aa [] W w')):=bZ (fun W k=>by
   have:=jB W X cols B row u C a9 (hN.shift k (by simp) (fun x hx=>.inl hx)) hm (fun v hv=>dI (an v hv));rwa [ak] at this)
  generalize bi:(w.alloc (.cells #[I (cols:Int),.slice A n c,I b] 115)).alloc (.cells #[I 0,.slice none 0 0,I 0] 115)=w2 at*;have a4:w.heap.size+2=w2.heap.size:=by rw[<-bi];simp
  obtain⟨Q,a1⟩:∃Q:aD,Q=⟨id,B,u,C⟩:=⟨_,rfl⟩;have a6:Z (aJ (ei w X cols) (pq aD.k id Q rs) (fu id row l)):=bZ (by
   unfold fu;rw[ux ha];exact Bv hR (by rw[a1];exact⟨rfl,a9.symm,hN,b2,an⟩))
  have b1:Z (∀j r,rs[j]? =some r->∀y∈rs.take j,y.k<r.k):=bZ (fun j r hr=>rf (qX hR ha) hr);have ar:=bZ (fun W=>Aa W);have bn:¬(4611686018427387904:Int)<id:=by omega
  have ba:¬id<(1:Int):=by omega
  replace a8:=bZ a8;replace hl:=bZ hl;replace a3:=bZ a3;replace kb:=bZ kb;replace hi:=bZ hi;replace K:=bZ K;replace L:=bZ L;replace M:=bZ M;replace hX:=bZ hX;replace B0:=bZ B0;replace B1:=bZ B1;replace a4:=bZ a4;replace a1:=bZ a1;clear hR hC a9 hN b2 an ak ha;go_enter Tryz.func68,Tryz.ntmps68;go_wp2_with (first
   | (go_at_call 99;refine(ar.o _).mono ?_;rintro e w' ⟨rfl,rfl⟩)
   | (go_at_call 65;refine(CS.o _ kb.o).mono ?_;rintro e w3 ⟨rfl,q⟩))
  clear yb CS ar;obtain⟨b8,bp⟩:∃b8,b8=w3:=⟨_,rfl⟩;have b7:Z (w2.heap.size<=w3.heap.size):=bZ q.o.size;go_loopw [8,9,10] (fun ov pv ap wr=>∃(j:Nat) (oA:Option Addr) (i oc:Nat) (p:Bool),j<=n/\i<=j+1/\ap=I (j:Int)/\ov=.slice oA i oc/\pv=.bool p/\Z ((rs.take j).any (fun r=>decide (id<=r.k))=p)/\Z (p=false->i<=j)/\Z ((pst aD.k id Q (rs.take j)).length=i)/\Z (wr.ownsRow w3.heap.size 117 2 (.slice oA i oc) i (bE ((pst aD.k id Q (rs.take j)).map aD.ent)))/\Z (aa [] w3 wr)) (fun _ _ ap _=>n - (intOf ap).toNat)
  case atStart=>exact⟨0,none,0,0,false,C3 _,C3 _,rfl,rfl,rfl,bZ rfl,bZ (fun _=>C9 _),bZ rfl,bZ (bQ _ _ _ _),bZ (aa.refl _ _)⟩
  case round=>
   obtain⟨j,oA,i,oc,p,hj,c1,rfl,rfl,rfl,hp,b5,Y,d,D⟩:=hrel;have fe:Z (∀os,bE ((os++[Q]).map aD.ent)=bE (os.map aD.ent)++[I id,.slice B u C]):=bZ (fun os=>by rw[fD,a1.o]);have a7:Blk wr w.heap.size 115 #[I (cols:Int),.slice A n c,I b]:=B0.o.keep (q.o.trans D.o) (by simp);have y1:=a7.cell 1;by_cases bb:j<n
   ·have bt:(j:Int)<(n:Int):=by omega
    obtain⟨r,hr⟩:∃r,rs[j]? =some r:=⟨_,CT (by rw[a3.o];exact bb)⟩;have CC:∀W,aa [] w3 W->∃g off,A=some (U g off)/\W.cell? (U g (off+j*2))=some (I r.k)/\W.cell? (U g (off+j*2+1))=G r.A r.n r.c:=fun W k=>by
     obtain⟨g,off,S,_,T⟩:=gF (a8.o.shift (X':=X) (q.o.trans k) (by simp) (fun x hx=>.inl hx)) hr;exact⟨g,off,S,T⟩
    obtain⟨g,off,rfl,x0,x1⟩:=CC wr D.o;have CD:Z (∀W,aa [] w3 W->W.cell? (U g (off+j*2))=some (I r.k)/\W.cell? (U g (off+j*2+1))=G r.A r.n r.c/\W.cell? (U w.heap.size 1)=G (some (U g off)) n c):=bZ (fun W k=>by
     obtain⟨g',bs,S,T,h3⟩:=CC W k;cases S;exact⟨T,h3,(B0.o.keep (q.o.trans k) (by simp)).cell 1⟩)
    clear CC;have wj:IntKind.i64.wrap ((j:Int)+1)=(j:Int)+1:=C0 _ (by omega);have a5:Z (rs.take (j+1)=rs.take j++[r]):=bZ (by rw[Dq,hr];rfl);have hb:=bZ (b1.o j r hr);clear a7 hr;cases p with
    | true=>
     obtain⟨J,e2,z⟩:=Ch (e:=Q) hp.o hb.o;rw[<-a5.o] at J z;have E:(r.k !=id)=true:=by simp;omega
     replace J:=bZ J;replace e2:=bZ e2;replace z:=bZ z;go_wp2_with (at_builtin;refine ae (by rfl) (.tmp 59) (.tmp 65) 113 rfl w3.heap.size 117 i0 (.agg #[I 0,.slice none 0 0]) 2 32 Tryz.underlying113 hi.o K.o L.o M.o rfl (by decide) _ (i) _ rfl (ab d.o ((aa.refl [] wr).alloc _)) (V wr.heap.size) 1 1 [I r.k,.slice r.A r.n r.c] rfl rfl (aI (off:=0) (l:=[I r.k,.slice r.A r.n r.c]) (Blk.new wr 117 #[I r.k,.slice r.A r.n r.c]) (by simp) 1) (by simp[Value.oneCell']) (by unfold maxLen;omega) (by omega) (Dc D.o.size ((aa.refl [] wr).alloc _).size) ?_;intro v6 w6 F s _ H;have K6:=bZ (aF D.o ((aa.refl [] wr).alloc (.cells #[I r.k,.slice r.A r.n r.c] 117)) d.o s.o);obtain⟨A6,c6,rfl,O6,_,_⟩:=bR F s H;clear F s H);go_roundw
     case rel=>exact⟨j+1,A6,i+1,c6,true,by omega,by omega,by go_num,rfl,rfl,J,bZ (fun h=>by cases h),bZ (by rw[z.o,CU,Y.o];rfl),bZ (by rw[z.o,fD];exact O6.o),K6⟩
     case measure=>simp[intOf];omega
    | false=>
     have b6:=b5.o rfl;by_cases S:r.k<id
     ·obtain⟨J,z⟩:=Ck (e:=Q) hp.o S;rw[<-a5.o] at J z;have E:(r.k !=id)=true:=by simp;omega
      have b3:(id<=r.k)=False:=eq_false (by omega);replace J:=bZ J;replace z:=bZ z;replace S:=bZ S;go_wp2_with (at_builtin;refine ae (by rfl) (.tmp 59) (.tmp 65) 113 rfl w3.heap.size 117 i0 (.agg #[I 0,.slice none 0 0]) 2 32 Tryz.underlying113 hi.o K.o L.o M.o rfl (by decide) _ (i) _ rfl (ab d.o ((aa.refl [] wr).alloc _)) (V wr.heap.size) 1 1 [I r.k,.slice r.A r.n r.c] rfl rfl (aI (off:=0) (l:=[I r.k,.slice r.A r.n r.c]) (Blk.new wr 117 #[I r.k,.slice r.A r.n r.c]) (by simp) 1) (by simp[Value.oneCell']) (by unfold maxLen;omega) (by omega) (Dc D.o.size ((aa.refl [] wr).alloc _).size) ?_;intro v6 w6 F s _ H;have K6:=bZ (aF D.o ((aa.refl [] wr).alloc (.cells #[I r.k,.slice r.A r.n r.c] 117)) d.o s.o);obtain⟨A6,c6,rfl,O6,_,_⟩:=bR F s H;clear F s H);go_roundw
      case rel=>exact⟨j+1,A6,i+1,c6,false,by omega,by omega,by go_num,rfl,rfl,J,bZ (fun h=>by omega),bZ (by rw[z.o,CU,Y.o];rfl),bZ (by rw[z.o,fD];exact O6.o),K6⟩
      case measure=>simp[intOf];omega
     by_cases T:r.k=id
     ·obtain⟨J,z⟩:=Ci (e:=Q) hp.o T;rw[<-a5.o] at J z;have E:(r.k !=id)=false:=by simp[T]
      have b3:id<=r.k:=by omega
      replace J:=bZ J;replace z:=bZ z;replace S:=bZ S;replace T:=bZ T;go_wp2_with ((at_builtin;refine ae (by rfl) (.tmp 45) (.tmp 49) 113 rfl w3.heap.size 117 i0 (.agg #[I 0,.slice none 0 0]) 2 32 Tryz.underlying113 hi.o K.o L.o M.o rfl (by decide) _ (i) _ rfl (ab d.o ((aa.refl [] wr).alloc _)) (V wr.heap.size) 1 1 [I id,.slice B u C] rfl rfl (aI (off:=0) (l:=[I id,.slice B u C]) (Blk.new wr 117 #[I id,.slice B u C]) (by simp) 1) (by simp[Value.oneCell']) (by unfold maxLen;omega) (by omega) (Dc D.o.size ((aa.refl [] wr).alloc _).size) ?_;intro v7 N F s _ H;have R:=bZ (aF D.o ((aa.refl [] wr).alloc (.cells #[I id,.slice B u C] 117)) d.o s.o);obtain⟨O,P,rfl,O7,_,_⟩:=bR F s H;clear F s H);obtain⟨z0,z1,z2⟩:=CD.o N R.o);go_roundw
      case rel=>exact⟨j+1,O,i+1,P,true,by omega,by omega,by go_num,rfl,rfl,J,bZ (fun h=>by cases h),bZ (by rw[z.o,CU,Y.o];rfl),bZ (by rw[z.o,fe.o];exact O7.o),R⟩
      case measure=>simp[intOf];omega
     obtain⟨J,z⟩:=Cj (e:=Q) hp.o (x:=r) (by omega);rw[<-a5.o] at J z;have E:(r.k !=id)=true:=by simp[T]
     have b3:id<=r.k:=by omega
     replace J:=bZ J;replace z:=bZ z;replace S:=bZ S;replace T:=bZ T;go_wp2_with (first
      | ((at_builtin;refine ae (by rfl) (.tmp 45) (.tmp 49) 113 rfl w3.heap.size 117 i0 (.agg #[I 0,.slice none 0 0]) 2 32 Tryz.underlying113 hi.o K.o L.o M.o rfl (by decide) _ (i) _ rfl (ab d.o ((aa.refl [] wr).alloc _)) (V wr.heap.size) 1 1 [I id,.slice B u C] rfl rfl (aI (off:=0) (l:=[I id,.slice B u C]) (Blk.new wr 117 #[I id,.slice B u C]) (by simp) 1) (by simp[Value.oneCell']) (by unfold maxLen;omega) (by omega) (Dc D.o.size ((aa.refl [] wr).alloc _).size) ?_;intro v7 N F s _ H;have R:=bZ (aF D.o ((aa.refl [] wr).alloc (.cells #[I id,.slice B u C] 117)) d.o s.o);obtain⟨O,P,rfl,O7,_,_⟩:=bR F s H;clear F s H);obtain⟨z0,z1,z2⟩:=CD.o N R.o)
      | (at_builtin;refine ae (by rfl) (.tmp 59) (.tmp 65) 113 rfl w3.heap.size 117 i0 (.agg #[I 0,.slice none 0 0]) 2 32 Tryz.underlying113 hi.o K.o L.o M.o rfl (by decide) _ (i+1) _ rfl (ab O7.o ((aa.refl [] N).alloc _)) (V N.heap.size) 1 1 [I r.k,.slice r.A r.n r.c] rfl rfl (aI (off:=0) (l:=[I r.k,.slice r.A r.n r.c]) (Blk.new N 117 #[I r.k,.slice r.A r.n r.c]) (by simp) 1) (by simp[Value.oneCell']) (by unfold maxLen;omega) (by omega) (Dc R.o.size ((aa.refl [] N).alloc _).size) ?_;intro v6 w6 F s _ H;have K6:=bZ (aF R.o ((aa.refl [] N).alloc (.cells #[I r.k,.slice r.A r.n r.c] 117)) O7.o s.o);obtain⟨A6,c6,rfl,O6,_,_⟩:=bR F s H;clear F s H))
     go_roundw
     case rel=>exact⟨j+1,A6,i+1+1,c6,true,by omega,by omega,by go_num,rfl,rfl,J,bZ (fun h=>by cases h),bZ (by rw[z.o,CU,CU,Y.o];rfl),bZ (by rw[z.o,fD,fe.o];exact O6.o),K6⟩
     case measure=>simp[intOf];omega
   obtain rfl:j=n:=by omega
   have b0:rs.take j=rs:=C6 (by rw[a3.o];exact C9 _);rw[b0] at Y d hp;have c2:IntKind.i64.wrap (id+1)=id+1:=C0 _ (by omega);have E:w.heap.size+1≠w.heap.size:=by omega
   clear a7;have a2:Z (∀W m N O n7 P,m=max b (id+1)->Z (N.ownsRow w3.heap.size 117 2 (.slice O n7 P) n7 (bE ((pq aD.k id Q rs).map aD.ent)))->Z (aa [] w3 N)->aa [w.heap.size,w.heap.size+1] N W->∃v,Ending.returned (.tuple #[.agg #[I (cols:Int),.slice O n7 P,I m],I 0])=Ending.returned (.tuple #[v,I 0])/\f8 w X cols (fu id row l) (max b (id+1)) (.returned v) W):=bZ (fun W m N O n7 P hm ac b9 k=>by
    have a4:=a4.o;have b7:=b7.o;subst hm;have o7:=ac.o;have k2:aa [] w W:=(kb.o.trans (q.o.trans b9.o)).more k (fun y hy=>by simp at hy;rcases hy with rfl | rfl<;>exact .inr (by omega));have b4:(pq aD.k id Q rs).length=n7:=by have:=o7.1;rw[vS,Df] at this;omega
    refine⟨_,rfl,O,n7,P,rfl,by rw[<-a6.o.len,b4],bZ (ye a6.o (aq o7 k (fun y hy hm=>by have:=(aw o7 hm).1;simp at hy;rcases hy with rfl | rfl<;>omega)) k2 (by omega) hX.o),bZ k2⟩)
   cases p with
   | true=>
    have a0:Z (wr.ownsRow w3.heap.size 117 2 (.slice oA i oc) i (bE ((pq aD.k id Q rs).map aD.ent))):=bZ (by rw[<-zT hp.o];exact d.o);by_cases bd:b<=id
    ·have f:=B0.o.keep (q.o.trans D.o) (by simp);have a:=B1.o.keep (q.o.trans D.o) (by simp);have yb:=f.cell;have yf:=f.frozen;have zb:=a.cell;have zf:=a.frozen;replace f:=bZ f;replace a:=bZ a;go_wp2_with fail;refine bodyPost_ret (v:=.tuple #[.agg #[I (cols:Int),.slice oA i oc,I (id+1)],I 0]) (cL (g:=w.heap.size+1) (t:=115) rfl rfl rfl (((((a.o.far (p:=(U w.heap.size 1)) E _).far (p:=(U w.heap.size 2)) E _).set_ 0 _).set_ 1 _).set_ 2 _) Tryz.underlying115 rfl (by kernel_rfl)) rfl ?_;exact a2.o _ _ wr oA i oc (by omega) a0 D ((((((aa.refl _ wr).setCell (.inl (by simp)) _).setCell (.inl (by simp)) _).setCell (.inl (by simp)) _).setCell (.inl (by simp)) _).setCell (.inl (by simp)) _)
    have f:=B0.o.keep (q.o.trans D.o) (by simp);have a:=B1.o.keep (q.o.trans D.o) (by simp);have yb:=f.cell;have yf:=f.frozen;have zb:=a.cell;have zf:=a.frozen;replace f:=bZ f;replace a:=bZ a;go_wp2_with fail;refine bodyPost_ret (v:=.tuple #[.agg #[I (cols:Int),.slice oA i oc,I b],I 0]) (cL (g:=w.heap.size+1) (t:=115) rfl rfl rfl ((((a.o.far (p:=(U w.heap.size 1)) E _).set_ 0 _).set_ 1 _).set_ 2 _) Tryz.underlying115 rfl (by kernel_rfl)) rfl ?_;exact a2.o _ _ wr oA i oc (by omega) a0 D (((((aa.refl _ wr).setCell (.inl (by simp)) _).setCell (.inl (by simp)) _).setCell (.inl (by simp)) _).setCell (.inl (by simp)) _)
   | false=>
    have b6:=b5.o rfl;have hf:Z (∀(W:World) O P,Z (W.ownsRow w3.heap.size 117 2 (.slice O (i+1) P) (i+1) (bE ((pst aD.k id Q rs).map aD.ent)++[I id,.slice B u C]))->Z (W.ownsRow w3.heap.size 117 2 (.slice O (i+1) P) (i+1) (bE ((pq aD.k id Q rs).map aD.ent)))):=bZ (fun W O P h=>bZ (by rw[<-xK hp.o,fe.o];exact h.o));have y1:wr.cell? (U w.heap.size 1)=G A j c:=(B0.o.keep (q.o.trans D.o) (by simp)).cell 1;by_cases bd:b<=id
    ·go_wp2_with (at_builtin;refine ae (by rfl) (.tmp 69) (.tmp 73) 113 rfl w3.heap.size 117 i0 (.agg #[I 0,.slice none 0 0]) 2 32 Tryz.underlying113 hi.o K.o L.o M.o rfl (by decide) _ (i) _ rfl (ab d.o ((aa.refl [] wr).alloc _)) (V wr.heap.size) 1 1 [I id,.slice B u C] rfl rfl (aI (off:=0) (l:=[I id,.slice B u C]) (Blk.new wr 117 #[I id,.slice B u C]) (by simp) 1) (by simp[Value.oneCell']) (by unfold maxLen;omega) (by omega) (Dc D.o.size ((aa.refl [] wr).alloc _).size) ?_;intro v7 N F s _ H;have R:=bZ (aF D.o ((aa.refl [] wr).alloc (.cells #[I id,.slice B u C] 117)) d.o s.o);obtain⟨O,P,rfl,O7,_,_⟩:=bR F s H;clear F s H;have f:=B0.o.keep (q.o.trans R.o) (by simp);have a:=B1.o.keep (q.o.trans R.o) (by simp);have yb:=f.cell;have yf:=f.frozen;have zb:=a.cell;have zf:=a.frozen;replace f:=bZ f;replace a:=bZ a);refine bodyPost_ret (v:=.tuple #[.agg #[I (cols:Int),.slice O (i+1) P,I (id+1)],I 0]) (cL (g:=w.heap.size+1) (t:=115) rfl rfl rfl (((((a.o.far (p:=(U w.heap.size 1)) E _).far (p:=(U w.heap.size 2)) E _).set_ 0 _).set_ 1 _).set_ 2 _) Tryz.underlying115 rfl (by kernel_rfl)) rfl ?_;exact a2.o _ _ N O (i+1) P (by omega) (hf.o _ _ _ O7) R ((((((aa.refl _ N).setCell (.inl (by simp)) _).setCell (.inl (by simp)) _).setCell (.inl (by simp)) _).setCell (.inl (by simp)) _).setCell (.inl (by simp)) _)
    go_wp2_with (at_builtin;refine ae (by rfl) (.tmp 69) (.tmp 73) 113 rfl w3.heap.size 117 i0 (.agg #[I 0,.slice none 0 0]) 2 32 Tryz.underlying113 hi.o K.o L.o M.o rfl (by decide) _ (i) _ rfl (ab d.o ((aa.refl [] wr).alloc _)) (V wr.heap.size) 1 1 [I id,.slice B u C] rfl rfl (aI (off:=0) (l:=[I id,.slice B u C]) (Blk.new wr 117 #[I id,.slice B u C]) (by simp) 1) (by simp[Value.oneCell']) (by unfold maxLen;omega) (by omega) (Dc D.o.size ((aa.refl [] wr).alloc _).size) ?_;intro v7 N F s _ H;have R:=bZ (aF D.o ((aa.refl [] wr).alloc (.cells #[I id,.slice B u C] 117)) d.o s.o);obtain⟨O,P,rfl,O7,_,_⟩:=bR F s H;clear F s H;have f:=B0.o.keep (q.o.trans R.o) (by simp);have a:=B1.o.keep (q.o.trans R.o) (by simp);have yb:=f.cell;have yf:=f.frozen;have zb:=a.cell;have zf:=a.frozen;replace f:=bZ f;replace a:=bZ a);refine bodyPost_ret (v:=.tuple #[.agg #[I (cols:Int),.slice O (i+1) P,I b],I 0]) (cL (g:=w.heap.size+1) (t:=115) rfl rfl rfl ((((a.o.far (p:=(U w.heap.size 1)) E _).set_ 0 _).set_ 1 _).set_ 2 _) Tryz.underlying115 rfl (by kernel_rfl)) rfl ?_;exact a2.o _ _ N O (i+1) P (by omega) (hf.o _ _ _ O7) R (((((aa.refl _ N).setCell (.inl (by simp)) _).setCell (.inl (by simp)) _).setCell (.inl (by simp)) _).setCell (.inl (by simp)) _)
def KB (W:World) (b c:Nat) (A:Option Addr) (n j:Nat):Prop:=n=0\/∃g a,A=V g/\Blk W g 66 a/\b<=g/\g≠c/\∀i,i<n->∃v,a[i]? =some v/\iB W (fun x=>x≠g/\x≠c/\(i<j->b<=x)) v
def FB (W:World) (b c:Nat) (A:Option Addr) (n j:Nat):Prop:=n=0\/∃g a,A=V g/\Blk W g 68 a/\b<=g/\g≠c/\∀i,i<n->∃x y z,a[i*3]? =some x/\a[i*3+1]? =some y/\a[i*3+2]? =some z/\tM W (fun x=>x≠g/\x≠c/\(i<j->b<=x)) x y z
theorem KB.move {W d:World} {e a n j:Nat} {A:Option Addr} {Y:List Nat} (h:KB W e a A n j) (m:aa Y W d) (l:∀y∈Y,y=a\/W.heap.size<=y):KB d e a A n j:=by
 rcases h with h | ⟨g,b,p,f,q,k,r⟩
 ·exact .inl h
 have t:g∉Y:=fun c=>by
  rcases l g c with h | h
  ·exact k h
  have:=f.lt;omega
 refine .inr ⟨g,b,p,f.keep m t,q,k,fun i u=>?_⟩;obtain⟨v,w,s⟩:=r i u;exact⟨v,w,s.move m (fun x z o=>⟨fun c=>by
  rcases l x c with h | h
  ·exact o.2.1 h
  omega,o⟩)⟩
theorem FB.move {W k:World} {l d n j:Nat} {A:Option Addr} {Y:List Nat} (h:FB W l d A n j) (q:aa Y W k) (p:∀y∈Y,y=d\/W.heap.size<=y):FB k l d A n j:=by
 rcases h with h | ⟨g,e,B,m,C,o,D⟩
 ·exact .inl h
 have E:g∉Y:=fun f=>by
  rcases p g f with h | h
  ·exact o h
  have:=m.lt;omega
 refine .inr ⟨g,e,B,m.keep q E,C,o,fun i F=>?_⟩;obtain⟨a,b,c,s,t,u,v,w,z⟩:=D i F;exact⟨a,b,c,s,t,u,v.move q (fun x H r=>⟨fun f=>by
  rcases p x f with h | h
  ·exact r.2.1 h
  omega,r⟩),w,z⟩
theorem KB.start {W:World} {d:World} {b n c:Nat} {A:Option Addr} {h:List Value} (k:W.ownsRow b 66 1 (.slice A n c) n h) (p:aa [] d W) (r:d.heap.size<b) (P:Nat->Prop) (l:∀v∈h,iB d P v):KB W d.heap.size d.heap.size A n 0:=by
 rcases DY n with f | f
 ·exact .inl f
 have t:=k.1;obtain⟨g,c',q,_,_,m,_,o,e,j⟩:=ax k f;injection q with hA _ _;refine .inr ⟨g,e,hA,j,by omega,by omega,fun i s=>?_⟩;obtain⟨v,a⟩:∃v,h[i]? =some v:=⟨_,CT (by omega)⟩;have:=o i v a;rw[j.cell] at this;exact⟨v,this,(l v (CW a)).move p (fun x u _=>⟨by simp,by omega,by omega,by omega⟩)⟩
theorem FB.start {W:World} {a:World} {b n c:Nat} {A:Option Addr} {d:List Value} (C:W.ownsRow b 68 3 (.slice A n c) n d) (B:aa [] a W) (E:a.heap.size<b) (P:Nat->Prop) (u:∀i,i<n->∃x y z,d[i*3]? =some x/\d[i*3+1]? =some y/\d[i*3+2]? =some z/\tM a P x y z):FB W a.heap.size a.heap.size A n 0:=by
 rcases DY n with f | f
 ·exact .inl f
 obtain⟨g,c',D,_,_,v,_,h,e,m⟩:=ax C f;injection D with hA _ _;refine .inr ⟨g,e,hA,m,by omega,by omega,fun i w=>?_⟩;obtain⟨x,y,z,o,p,q,r,s,t⟩:=u i w;have j:=h _ _ o;have k:=h _ _ p;have l:=h _ _ q;rw[m.cell] at j k l;exact⟨x,y,z,j,k,l,r.move B (fun x F _=>⟨by simp,by omega,by omega,by omega⟩),s,t⟩
theorem iB.copy {W a:World} {P:Nat->Prop} {A:Option Addr} {n c:Nat} {k:List Int} (f:k.length=n) (i:n<=10000) (b:aY a A k) (e:∀g∈fb A,W.heap.size<=g) (d:∀x,W.heap.size<=x->x<a.heap.size->P x):iB a P (.slice A n c):=
 ⟨A,n,c,k,rfl,f,i,(tD b).move (aa.refl [] a) (fun x j h=>⟨by simp,d x (e x h) j⟩)⟩
theorem KB.step {W b:World} {d e g n j:Nat} {f:Array Value} (o:Blk W g 66 f) (t:d<=g) (u:g≠e) (C:e<W.heap.size) (B:d<=W.heap.size) (L:j<n) (w:∀i,i<n->∃v,f[i]? =some v/\iB W (fun x=>x≠g/\x≠e/\(i<j->d<=x)) v) {A:Option Addr} {m c:Nat} {k:List Int}
 (F:k.length=m) (H:m<=10000) (y:aY b A k) (D:∀g∈fb A,W.heap.size<=g) (r:aa [] W b):KB (b.setCell (U g j) (.slice A m c)) d e (V g) n (j+1):=by
  have J:=o.lt;have s:aa [g] b (b.setCell (U g j) (.slice A m c)):=(aa.refl [g] b).setCell (.inl (by simp)) _;refine .inr ⟨g,_,rfl,(o.keep r (by simp)).set_ j _,t,u,fun i E=>?_⟩;obtain⟨v,p,z⟩:=w i E;by_cases l:j=i
  ·subst l;refine⟨.slice A m c,by simp[D7,(Dy.1 p).1],(iB.copy (P:=fun x=>x≠g/\x≠e/\(j<j+1->d<=x)) (c:=c) F H y D (fun x K _=>⟨by omega,by omega,fun _=>by omega⟩)).move s (fun x q a=>⟨by simpa using a.1,a⟩)⟩
  refine⟨v,by simp[D7,l,p],(z.move r (Q:=fun x=>x≠g/\x≠e/\(i<j+1->d<=x)) (fun x q a=>⟨by simp,a.1,a.2.1,fun h=>a.2.2 (by omega)⟩)).move s (fun x q a=>⟨by simpa using a.1,a⟩)⟩
theorem FB.step {W d:World} {e f g n j:Nat} {a:Array Value} (t:Blk W g 68 a) (F:e<=g) (H:g≠f) (M:f<W.heap.size) (L:e<=W.heap.size) (Y:j<n) (J:∀i,i<n->∃x y z,a[i*3]? =some x/\a[i*3+1]? =some y/\a[i*3+2]? =some z/\tM W (fun x=>x≠g/\x≠f/\(i<j->e<=x)) x y z) {A:Option Addr} {m c:Nat} {k:List Int}
 (R:k.length=m) (S:m<=10000) (K:aY d A k) (N:∀g∈fb A,W.heap.size<=g) (v:aa [] W d):FB (d.setCell (U g (j*3)) (.slice A m c)) e f (V g) n (j+1):=by
  have T:=t.lt;have w:aa [g] d (d.setCell (U g (j*3)) (.slice A m c)):=(aa.refl [g] d).setCell (.inl (by simp)) _;refine .inr ⟨g,_,rfl,(t.keep v (by simp)).set_ (j*3) _,F,H,fun i O=>?_⟩;obtain⟨x,y,z,o,p,q,E,r,s⟩:=J i O;have C:j*3≠i*3+1:=by omega
  have D:j*3≠i*3+2:=by omega
  by_cases l:j=i
  ·subst l;refine⟨.slice A m c,y,z,by simp[D7,(Dy.1 o).1],by simp[D7,p],by simp[D7,q],(iB.copy (P:=fun x=>x≠g/\x≠f/\(j<j+1->e<=x)) (c:=c) R S K N (fun x X _=>⟨by omega,by omega,fun _=>by omega⟩)).move w (fun x u b=>⟨by simpa using b.1,b⟩),r,s⟩
  have B:j*3≠i*3:=by omega
  refine⟨x,y,z,by simp[D7,B,o],by simp[D7,C,p],by simp[D7,D,q],(E.move v (Q:=fun x=>x≠g/\x≠f/\(i<j+1->e<=x)) (fun x u b=>⟨by simp,b.1,b.2.1,fun h=>b.2.2 (by omega)⟩)).move w (fun x u b=>⟨by simpa using b.1,b⟩),r,s⟩
theorem KB.done {W:World} {d e n:Nat} {A:Option Addr} (h:KB W d e A n n):∃k,k.length=n/\aL W (fun x=>d<=x/\x≠e) A k/\∀v∈k,iB W (fun x=>d<=x/\x≠e) v:=by
 rcases h with rfl | ⟨g,b,q,r,s,t,l⟩
 ·exact⟨[],rfl,fun i v a=>by simp at a,by simp⟩
 have m:n<=b.size:=by
  rcases DY n with p | p
  ·omega
  obtain⟨v,f,_⟩:=l (n - 1) (by omega);have:=(Dy.1 f).1;omega
 refine⟨b.toList.take n,by rw[CY];simp;omega,fun i v a=>?_,fun v f=>?_⟩
 ·rw[Dx] at a
  split at a
  ·exact⟨g,0,q,⟨s,t⟩,by rw[Dl,r.cell];simpa using a⟩
  cases a
 obtain⟨i,a⟩:=DQ f;rw[Dx] at a
 split at a
 ·rename_i hlt;obtain⟨w,j,u⟩:=l i hlt;have:v=w:=by
   have c:b[i]? =some v:=by simpa using a
   rw[j] at c;injection c with c;exact c.symm
  subst this;exact u.move (aa.refl [] W) (fun x y o=>⟨by simp,o.2.2 hlt,o.2.1⟩)
 cases a
theorem FB.done {W:World} {d e n:Nat} {A:Option Addr} (h:FB W d e A n n):∃c,c.length=n*3/\aL W (fun x=>d<=x/\x≠e) A c/\∀i,i<n->∃x y z,c[i*3]? =some x/\c[i*3+1]? =some y/\c[i*3+2]? =some z/\tM W (fun x=>d<=x/\x≠e) x y z:=by
 rcases h with rfl | ⟨g,b,t,u,w,B,f⟩
 ·exact⟨[],rfl,fun i v a=>by simp at a,by simp⟩
 have j:n*3<=b.size:=by
  rcases DY n with s | s
  ·omega
  obtain⟨x,y,z,_,_,C,_⟩:=f (n - 1) (by omega);have:=(Dy.1 C).1;omega
 refine⟨b.toList.take (n*3),by rw[CY];simp;omega,fun i v a=>?_,fun i a=>?_⟩
 ·rw[Dx] at a
  split at a
  ·exact⟨g,0,t,⟨w,B⟩,by rw[Dl,u.cell];simpa using a⟩
  cases a
 obtain⟨x,y,z,l,m,o,p,q,r⟩:=f i a;refine⟨x,y,z,?_,?_,?_,p.move (aa.refl [] W) (fun x D k=>⟨by simp,k.2.2 a,k.2.1⟩),q,r⟩
 ·rw[Dx,if_pos (by omega)];simpa using l
 ·rw[Dx,if_pos (by omega)];simpa using m
 rw[Dx,if_pos (by omega)];simpa using o
def AT (w W:World) (b:Option Addr) (j c:Nat) (a:List (List Value)) (cols:List Nat):Prop:=W.ownsRow w.heap.size 32 5 (.slice b j c) j a.flatten/\aJ (oO W (fun x=>w.heap.size<=x/\x∉fb b)) a cols/\aa [] w W
end Go.Proofs.YtmlmfpikncogpaaGreat
