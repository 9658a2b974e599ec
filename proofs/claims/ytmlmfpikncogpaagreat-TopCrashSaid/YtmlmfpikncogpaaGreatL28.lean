import Derived.Test.YtmlmfpikncogpaaGreatL26
import Derived.Test.YtmlmfpikncogpaaGreatL27
namespace Go.Proofs.YtmlmfpikncogpaaGreat
open Go.RowKit
set_option linter.unusedSimpArgs false
set_option linter.unusedVariables false
set_option maxRecDepth 100000
set_option maxHeartbeats 16000000
theorem BH:(Tryz.prog.info? 64).map (fun i=>(i.zero,i.size,i.bytes))=some (some (.agg #[I 0,I 0,.slice none 0 0,.slice none 0 0]),4,64):=by kernel_rfl
structure oz where
 t:Int
 id:Int
 oA:Option Addr
 on:Nat
 oc:Nat
 nA:Option Addr
 nn:Nat
 nc:Nat
def oz.vals (r:oz):List Value:=[I r.t,I r.id,.slice r.oA r.on r.oc,.slice r.nA r.nn r.nc]
def iP (rs:List oz):List Value:=rs.flatMap oz.vals
theorem pn:∀(rs:List oz) (i:Nat) (r:oz),rs[i]? =some r->(iP rs)[i*4]? =some (I r.t)/\(iP rs)[i*4+1]? =some (I r.id)/\(iP rs)[i*4+2]? =G r.oA r.on r.oc/\(iP rs)[i*4+3]? =G r.nA r.nn r.nc
 | [],i,r,h=>by simp at h
 | x::rs,0,r,h=>by
  obtain rfl:x=r:=by simpa using h
  exact⟨rfl,rfl,rfl,rfl⟩
 | x::rs,i+1,r,h=>by
  have a:=pn rs i r (by simpa using h);rw[show (i+1)*4=i*4+1+1+1+1 by omega];exact a
def zF (w:World) (X:List Nat) (r:oz) (c:Chg):Prop:=r.t=c.t/\r.id=c.id/\r.on=c.old.length/\r.nn=c.new.length/\ah w X r.oA c.old/\ah w X r.nA c.new
theorem aJ.snoc {α β:Type} {R:α->β->Prop} {a:α} {b:β} (h:R a b):∀ {l:List α} {k:List β},aJ R l k->aJ R (l++[a]) (k++[b])
 | [],[],_=>⟨h,trivial⟩
 | _::_,_::_,hr=>⟨hr.1,aJ.snoc h hr.2⟩
 | [],_::_,hr=>hr.elim
 | _::_,[],hr=>hr.elim
theorem ah.move {w w':World} {X Y X':List Nat} {A:Option Addr} {l:List Val} (h:ah w X A l) (m:aa Y w w') (k:∀y∈Y,y∈X\/w.heap.size<=y) (j:∀x∈X',x∈X\/w.heap.size<=x):ah w' X' A l:=by
 have d:=h.other j;have f:=h.keep m k;intro i v b;obtain⟨g,off,rfl,o,c1⟩:=f i v b;obtain⟨n,c,e,a,_⟩:=d i v b;cases e;exact⟨g,off,rfl,a,c1⟩
theorem wJ {w w':World} {X Y X':List Nat} {rs:List oz} {l:List Chg} (h:aJ (zF w X) rs l) (e:aa Y w w') (d:∀y∈Y,y∈X\/w.heap.size<=y) (b:∀x∈X',x∈X\/w.heap.size<=x):aJ (zF w' X') rs l:=
 aJ.mono h (fun r _ c _ a=>⟨a.1,a.2.1,a.2.2.1,a.2.2.2.1,a.2.2.2.2.1.move e d b,a.2.2.2.2.2.move e d b⟩)
def iC (w:World) (X:List Nat) (A:Option Addr) (l:List Chg):Prop:=
 ∀i x,l[i]? =some x->∃g off Ao co An cn,A=some (U g off)/\g∉X/\w.cell? (U g (off+i*4))=some (I x.t)/\w.cell? (U g (off+i*4+1))=some (I x.id)/\
  w.cell? (U g (off+i*4+2))=G Ao x.old.length co/\w.cell? (U g (off+i*4+3))=G An x.new.length cn/\ah w X Ao x.old/\ah w X An x.new
theorem AA {w:World} {X:List Nat} {b n c:Nat} {A:Option Addr} {rs:List oz} {l:List Chg} (h:aJ (zF w X) rs l) (H:w.ownsRow b 64 4 (.slice A n c) n (iP rs)) (L:rs.length=n) {j:List Nat} (d:∀x∈j,x∈X/\x<b):iC w j A l:=fun i x k=>by
 have E:=(CV.1 k).1;have K:=h.len;obtain⟨r,m⟩:∃r,rs[i]? =some r:=⟨_,CT (by omega)⟩;obtain⟨M,a,t,u,v,z,B,C⟩:=h.get i r m;rw[k] at a;injection a with a;subst a;obtain⟨g,c',J,_,_,D,_,e,_⟩:=ax H (by omega);injection J with hA _ _;obtain⟨o,p,q,s⟩:=pn rs i r m;refine⟨g,0,r.oA,r.oc,r.nA,r.nc,hA,fun F=>by have:=(d g F).2;omega,?_,?_,?_,?_,B.other (fun y f=>.inl (d y f).1),C.other (fun y f=>.inl (d y f).1)⟩
 ·rw[Dl,<-t];exact e _ _ o
 ·rw[Dl,<-u];exact e _ _ p
 ·rw[Dl,<-v];exact e _ _ q
 rw[Dl,<-z];exact e _ _ s
def uX (w:World) (a:List Nat) (l:List Chg) (e:Ending) (w':World):Prop:=∃A m c,e=.returned (.tuple #[.slice A m c,I 0])/\l.length=m/\Z (iC w' a A l)/\Z (aa [] w w')
theorem tg {l:List Chg} {j:Nat} {c:Chg} (h:l[j]? =some c):cI (l.drop j)=jF c++cI (l.drop (j+1)):=by
 rw[DP (CV.1 h).1,(CV.1 h).2];rfl
theorem ti (w:World) (H:List Nat) (K:∀x∈H,x<w.heap.size) (g o n c m:Nat) (l:List Chg) (hB:Bts w (some (U g o)) (cM l)) (hn:(cM l).length=n) (bk:n<=c) (hc:c<=9223372036854775807) (hg:g<w.heap.size) (i:l.length=m) (c4:m<=40) (hv:∀x∈l,x.ok):
 Calls Tryz.prog 64 #[.slice (some (U g o)) n c] w (uX w H l):=by
  obtain⟨i0,hi,a5,a6,a7⟩:=info_parts BH;have k0:aa [] w (w.alloc (.cells #[.slice (some (U g o)) n c,.bool false] 144)):=(aa.refl [] w).alloc _;have R0:RdS (w.alloc (.cells #[.slice (some (U g o)) n c,.bool false] 144)) w.heap.size g o n c (cM l):=⟨Blk.new w 144 _,hB.keep k0 (by simp),hn,bk,by omega,Dr hg k0.size⟩;have c3:8<=n:=by rw[<-hn];unfold cM;rw[CU,Cod.ag];omega
  have H1:=bZ (fp (w.alloc (.cells #[.slice (some (U g o)) n c,.bool false] 144)) w.heap.size g o n c (m:Int) (cI l) (by omega) (by have:=R0;unfold cM at this;rwa [i] at this) hc);replace K:=bZ K;replace hi:=bZ hi;replace a5:=bZ a5;replace a6:=bZ a6;replace a7:=bZ a7;have bb:=bZ hg;replace k0:=bZ k0;replace hv:=bZ hv;replace i:=bZ i;clear R0 hB hn hg;unfold ptr at H1;have b3:Z (w.heap.size<(w.alloc (.cells #[.slice (some (U g o)) n c,.bool false] 144)).heap.size):=bZ (by simp);go_enter Tryz.func64,Tryz.ntmps64;go_wp2_with (go_at_call 93;refine H1.o.mono ?_;rintro e w1 ⟨rfl,⟨o1,a8⟩,Y⟩);have Q:Z (aa [] w w1):=bZ (k0.o.more Y.o (fun y a=>.inr (by simp at a;omega)));have b1:Z (w.heap.size<w1.heap.size):=bZ (Dr b3.o Y.o.size);clear H1 Y k0 b3;go_loopw [5,6] (fun ov nv wr=>∃(j q:Nat) (f:Option Addr) (oc o' n' c':Nat) (rs:List oz),j+q=m/\nv=I (q:Int)/\ov=.slice f j oc/\c'<=9223372036854775807/\rs.length=j/\Z (RdS wr w.heap.size g o' n' c' (cI (l.drop j)))/\
   Z (wr.ownsRow w.heap.size 64 4 (.slice f j oc) j (iP rs))/\Z (aJ (zF wr (w.heap.size::(fb f++H))) rs (l.take j))/\Z (aa [] w wr)) (fun _ nv _=>(intOf nv).toNat)
  case atStart=>exact⟨0,m,none,0,o1,n - 8,c - 8,[],by omega,rfl,rfl,by omega,rfl,a8,bZ ⟨rfl,.inl ⟨rfl,rfl⟩⟩,bZ trivial,Q⟩
  obtain⟨j,q,f,oc,o',n',c',rs,c2,rfl,rfl,b9,b6,p,b,hrel,O⟩:=hrel;clear a8 Q b1;have x1:=p.o.blk.cell 1;by_cases hq:0<q
  ·obtain⟨x,k⟩:∃x,l[j]? =some x:=⟨_,CT (by rw[i.o];omega)⟩;have bl:=hv.o x (CW k);have hd:=tg k;have bs:Z (l.take (j+1)=l.take j++[x]):=bZ (by rw[Dq,k];rfl);obtain⟨a1,a2,c6,c7,a3,a4⟩:=bl;have bn:((q:Int) !=0)=true:=by simp;omega
   have cb:¬(q:Int)=0:=by omega
   have c9:¬(q:Int)<0:=by omega
   have wq:IntKind.i64.wrap ((q:Int) - 1)=((q - 1:Nat):Int):=by rw[C0 _ (by omega)];omega
   have P:Z (w.heap.size<wr.heap.size):=bZ p.o.blk.lt;have b2:Z (w.heap.size∉fb f):=bZ (fun i=>by
    obtain⟨_,_,c0,h3⟩:=aw b.o i;exact(p.o.blk.ne_ h3 (by decide)) rfl)
   obtain⟨R,J⟩:∃R,R=cI (l.drop (j+1)):=⟨_,rfl⟩;rw[hd,<-J] at p;unfold jF at p;rw[Dd,Dd,Dd] at p;have Ha:=bZ (fp wr w.heap.size g o' n' c' x.t _ a1 p.o b9);unfold ptr at Ha;replace J:=bZ J;replace a1:=bZ a1;replace a2:=bZ a2;replace a3:=bZ a3;replace a4:=bZ a4;clear hd k;go_wp2_with (first
    | (go_at_call 93;refine Ha.o.mono ?_;rintro e w2 ⟨rfl,⟨o2,a9⟩,L⟩;have Hb:=bZ (fp w2 w.heap.size g o2 (n' - 8) (c' - 8) x.id _ a2.o a9.o (by omega));unfold ptr at Hb;clear Ha)
    | (go_at_call 93;refine Hb.o.mono ?_;rintro e w3 ⟨rfl,⟨o3,ac⟩,M⟩;have Hc:=bZ (m9 w3 w.heap.size g o3 (n' - 8 - 8) (c' - 8 - 8) x.old _ a3.o (by omega) ac.o (by omega));unfold ptr at Hc;clear Hb)
    | (go_at_call 94;refine Hc.o.mono ?_;rintro e w4 ⟨r,C,u,rfl,bd,⟨o4,ak⟩,a0,b4,ap⟩;have Hd:=bZ (m9 w4 w.heap.size g o4 _ _ x.new _ a4.o (by omega) ak.o (by omega));unfold ptr at Hd;clear Hc)
    | (go_at_call 94;refine Hd.o.mono ?_;rintro e F ⟨s,D,v,rfl,bh,⟨o5,W⟩,N,b5,ar⟩;clear Hd;have K5:Z (aa [w.heap.size] wr F):=bZ (((L.o.trans M.o).trans a0.o).trans N.o);have T:=bZ (ab (aq b.o K5.o (fun y a i=>by simp only[CZ] at a;subst a;exact b2.o i)) ((aa.refl [] F).alloc (.cells #[I x.t,I x.id,.slice r C u,.slice s D v] 64)));have B9:=bZ (Blk.new F 64 #[I x.t,I x.id,.slice r C u,.slice s D v]);have bp:Z (w.heap.size<=(F.alloc (.cells #[I x.t,I x.id,.slice r C u,.slice s D v] 64)).heap.size):=bZ (Dc (Nat.le_of_lt P.o) (K5.o.alloc _).size))
    | (at_builtin;refine ae (by rfl) (.tmp 28) (.tmp 38) 43 rfl w.heap.size 64 i0 (.agg #[I 0,I 0,.slice none 0 0,.slice none 0 0]) 4 64 Tryz.underlying43 hi.o a5.o a6.o a7.o rfl (by decide) (.slice f j oc) j (iP rs) rfl T.o (V F.heap.size) 1 1 [I x.t,I x.id,.slice r C u,.slice s D v] rfl rfl (aI (off:=0) (l:=[I x.t,I x.id,.slice r C u,.slice s D v]) B9.o (by simp) 1) (by simp[Value.oneCell']) (by unfold maxLen;omega) (by omega) bp.o ?_;intro v6 w6 q1 q2 _ q4;obtain⟨E,b8,rfl,O6,K6,N6⟩:=bR (A:=f) (n:=j) (c:=oc) q1 q2 q4))
   have cd:=(((L.o.trans M.o).trans a0.o)).size;have cc:=(L.o.trans M.o).size;have ch:=N.o.size;have d:Z (RdS w6 w.heap.size g o5 (n' - 8 - 8 - (dX x.old).length - (dX x.new).length) (c' - 8 - 8 - (dX x.old).length - (dX x.new).length) (cI (l.drop (j+1)))/\
    w6.ownsRow w.heap.size 64 4 (.slice E (j+1) b8) (j+1) (iP (rs++[⟨x.t,x.id,r,C,u,s,D,v⟩]))/\aJ (zF w6 (w.heap.size::(fb E++H))) (rs++[⟨x.t,x.id,r,C,u,s,D,v⟩]) (l.take (j+1))/\aa [] w w6):=bZ (by
    have ka:aa [] F (F.alloc (.cells #[I x.t,I x.id,.slice r C u,.slice s D v] 64)):=(aa.refl [] F).alloc _
    have cj:=ka.size
    have kx:aa (w.heap.size::fb f) F w6:=ka.nil.trans (K6.o.mono (fun x k=>.inl (by simp[k])))
    have kz:aa (w.heap.size::fb f) wr w6:=(K5.o.mono (fun x k=>.inl (by simp only[CZ] at k;simp[k]))).trans kx
    have bt:aa (w.heap.size::fb f) w4 w6:=(N.o.mono (fun x k=>.inl (by simp only[CZ] at k;simp[k]))).trans kx
    have b0:∀y∈w.heap.size::fb f,w.heap.size<=y/\y<wr.heap.size:=fun y a=>by
     rcases Db.1 a with rfl | a
     ·exact⟨C9 _,P.o⟩
     exact⟨(aw b.o a).1,(aw b.o a).2.1⟩
    have c5:∀y∈w.heap.size::fb E,y∈w.heap.size::fb f\/F.heap.size<=y:=fun y a=>by
     rcases Db.1 a with rfl | a
     ·exact .inl (by simp)
     rcases N6.o y a with h | h
     ·exact .inl (by simp[h])
     exact .inr (by omega)
    have S:∀y∈w.heap.size::(fb f++H),y<wr.heap.size:=fun y a=>by
     rcases Db.1 a with rfl | a
     ·exact P.o
     rcases CX.1 a with a | a
     ·exact(aw b.o a).2.1
     exact Nat.lt_trans (K.o y a) P.o
    have B:∀y∈w.heap.size::fb f,y∈w.heap.size::(fb f++H):=fun y a=>by
     rcases Db.1 a with rfl | a
     ·simp
     simp[a]
    have z:∀y∈w.heap.size::(fb E++H),y∈w.heap.size::(fb f++H)\/F.heap.size<=y:=fun y a=>by
     rcases Db.1 a with rfl | a
     ·exact .inl (by simp)
     rcases CX.1 a with a | a
     ·rcases N6.o y a with h | h
      ·exact .inl (by simp[h])
      exact .inr (by omega)
     exact .inl (by simp[a])
    have ba:g∉w.heap.size::fb f:=fun i=>by
     have:=(b0 g i).1;rcases Db.1 i with h | h
     ·exact p.o.ne h
     have:=bb.o;omega
    have c1:=W.o.keep kx (X:=w.heap.size::fb f)
    refine⟨?_,?_,?_,?_⟩
    ·have h1:=W.o;rw[J.o] at h1;have h2:=h1.keep ka (by simp) (by simp);exact h2.keep K6.o b2.o (fun i=>ba (by simp[i]))
    ·have:=O6.o;have he:iP (rs++[⟨x.t,x.id,r,C,u,s,D,v⟩])=iP rs++[I x.t,I x.id,.slice r C u,.slice s D v]:=by simp[iP,oz.vals]
     rw[he];exact this
    ·rw[bs.o];refine aJ.snoc ⟨rfl,rfl,bd.symm,bh.symm,?_,?_⟩ (wJ hrel.o kz (fun y a=>.inl (B y a)) (fun y a=>(z y a).imp_right (fun h=>by omega)))
     ·exact(b4.o.fresh ap.o (fun y a=>by have:=S y a;omega)).move bt (fun y a=>.inl (B y a)) (fun y a=>(z y a).imp_right (fun h=>by omega))
     exact(b5.o.fresh ar.o (fun y a=>by have:=S y a;omega)).move kx (fun y a=>.inl (B y a)) z
    ·exact O.o.more kz (fun y a=>.inr (b0 y a).1))
   clear p b hrel O a9 ac ak W L M a0 N b4 b5 ap ar K5 T B9 O6 K6 N6;go_roundw
   case rel=>exact⟨j+1,q - 1,E,b8,o5,_,_,rs++[⟨x.t,x.id,r,C,u,s,D,v⟩],by omega,rfl,rfl,by omega,by rw[CU,b6];rfl,bZ d.o.1,bZ d.o.2.1,bZ d.o.2.2.1,bZ d.o.2.2.2⟩
   case measure=>simp[intOf];omega
  obtain rfl:q=0:=by omega
  obtain rfl:j=m:=by omega
  have b7:l.take j=l:=C6 (by rw[i.o];exact C9 _);have an:l.drop j=[]:=DB (by rw[i.o];exact C9 _);rw[an] at p;have bi:0=n':=p.o.len;subst bi;have x0:=p.o.blk.cell 0;have d:Z (uX w H l (.returned (.tuple #[.slice f j oc,I 0])) wr):=bZ ⟨f,j,oc,rfl,i.o,bZ (AA (by have:=hrel.o;rwa [b7] at this) b.o b6 (fun x k=>⟨by simp[k],K.o x k⟩)),O⟩;have bn:((0:Nat):Int)=0:=rfl;have c8:(((0:Nat):Int) !=0)=false:=rfl;clear p b hrel O b7 an;go_wp2_with fail;go_ret2;exact d.o
theorem BL:(Tryz.prog.info? 32).map (fun i=>(i.zero,i.size,i.bytes))=some (some (.agg #[.string ⟨#[]⟩,.slice none 0 0,.slice none 0 0,.slice none 0 0,.slice none 0 0]),5,112):=by kernel_rfl
def sw (w:World) (n:Nat) (cols:List Nat) (e:Ending) (w':World):Prop:=∃A c a,e=.returned (.slice A n c)/\Z (dU w' (fun x=>w.heap.size<=x) A a cols)/\Z (aa [] w w')
theorem aL.at_ {w:World} {P:Nat->Prop} {A:Option Addr} {a:List Value} (h:aL w P A a) (b:0<a.length):∃g off,A=some (U g off)/\∀i v,a[i]? =some v->w.cell? (U g (off+i))=some v:=by
 rcases h.src (n:=a.length) (s:=1) (by omega) (by decide) with h0 | ⟨g,off,h1,h2⟩
 ·omega
 exact⟨g,off,h1,h2⟩
theorem xO {w wr a o:World} {e b:Option Addr} {j P n i:Nat} {f:List (List Value)} {cols:List Nat} (F:AT w wr e j P f (cols.take j)) (J:i=wr.heap.size) (s:aa [] wr a) {t:List Value} {c:Nat} (K:cols[j]? =some c)
 (H:oO a (fun x=>i<=x/\x≠i) t c) (r:aa (fb e) a o) (B:∀g∈fb b,g∈fb e\/a.heap.size<=g) (L:o.ownsRow w.heap.size 32 5 (.slice b (j+1) n) (j+1) (f.flatten++t)):AT w o b (j+1) n (f++[t]) (cols.take (j+1)):=by
  obtain⟨u,E,z⟩:=F;have R:=s.size;have M:=z.size;have k:∀y∈fb e,w.heap.size<=y/\y<wr.heap.size:=fun y p=>⟨(aw u p).1,(aw u p).2.1⟩
  refine⟨by rw[List.flatten_append,Ed,List.flatten_nil,DA];exact L,?_,(z.trans s).more r (fun y p=>.inr (k y p).1)⟩;rw[Dq,K];have q:aa (fb e) wr o:=s.nil.trans r;have C:∀x,x<a.heap.size->(i<=x/\x≠i)->x∉fb e/\(w.heap.size<=x/\x∉fb b):=fun x O m=>by
   have Q:=m.1;have A:x∉fb e:=fun l=>by have:=(k x l).2;omega
   refine⟨A,by omega,fun l=>?_⟩;rcases B x l with h | h
   ·exact A h
   omega
  have D:∀x,x<wr.heap.size->(w.heap.size<=x/\x∉fb e)->x∉fb e/\(w.heap.size<=x/\x∉fb b):=fun x O m=>by
   refine⟨m.2,m.1,fun l=>?_⟩;rcases B x l with h | h
   ·exact m.2 h
   omega
  exact aJ.snoc (H.move r C) (E.mono (fun v _ d _ N=>N.move q D))
structure Mid (wo W:World) (cs:Array Value) (cA:Option Addr) (news:List Value) (X:List Nat):Prop where
 blk:Blk W wo.heap.size 32 cs
 kp:aa [] wo W
 col:aL W (fun x=>wo.heap.size<=x/\x≠wo.heap.size/\x∉X) cA news
theorem Mid.put {wo W:World} {cs:Array Value} {b:Option Addr} {a:List Value} {X:List Nat} (h:Mid wo W cs b a X) (i:Nat) (u:Value):Mid wo (W.setCell (U wo.heap.size i) u) (cs.setIfInBounds i u) b a X:=
 ⟨h.blk.set_ i u,h.kp.setCell (.inr (C9 _)) u,h.col.move ((aa.refl [wo.heap.size] W).setCell (.inl (by simp)) u) (fun x _ c=>⟨by simpa using c.2.1,c⟩)⟩
theorem Mid.more {wo W f:World} {cs:Array Value} {g:Option Addr} {a:List Value} {X X' Y:List Nat} (h:Mid wo W cs g a X) (e:aa Y W f) (d:∀y∈Y,(y∈X/\wo.heap.size<y)\/W.heap.size<=y) (i:∀x∈X',x∈X\/W.heap.size<=x):Mid wo f cs g a X':=by
 have k:=h.blk.lt;refine⟨h.blk.keep e (fun b=>?_),h.kp.more e (fun y j=>?_),h.col.move e (fun x l c=>⟨fun b=>?_,c.1,c.2.1,fun b=>?_⟩)⟩
 ·rcases d _ b with h | h<;>omega
 ·rcases d _ j with h | h
  ·exact .inr (by omega)
  exact .inr (by omega)
 ·rcases d x b with h | h
  ·exact c.2.2 h.1
  omega
 rcases i x b with h | h
 ·exact c.2.2 h
 omega
def KD (W:World) (Q:Nat->Prop) (A:Option Addr) (a:List Value):Prop:=aL W Q A a/\∀v∈a,iB W Q v
theorem KD.mk_ {W:World} {Q:Nat->Prop} {A:Option Addr} {a:List Value} (b:aL W Q A a) (c:∀v∈a,iB W Q v):KD W Q A a:=⟨b,c⟩
theorem KD.move {W a:World} {P Q:Nat->Prop} {Y:List Nat} {A:Option Addr} {d:List Value} (h:KD W P A d) (c:aa Y W a) (b:∀x,x<W.heap.size->P x->x∉Y/\Q x):KD a Q A d:=⟨h.1.move c b,fun v e=>(h.2 v e).move c b⟩
theorem rQ (w:World) (A:Option Addr) (n c:Nat) (P:Nat->Prop) (b7:List (List Value)) (cols:List Nat) (hS:dU w P A b7 cols) (hn:cols.length=n) (fl:n<=1000):Calls Tryz.prog 84 #[.slice A n c] w (sw w n cols):=by
 obtain⟨i0,hi,cl,cm,cn⟩:=info_parts BL;replace hi:=bZ hi;replace cl:=bZ cl;replace cm:=bZ cm;replace cn:=bZ cn;replace hS:=bZ hS;replace hn:=bZ hn;go_enter Tryz.func84,Tryz.ntmps84;go_wp2_with fail;go_loopw [3,10] (fun ov Q wr=>∃(j:Nat) (oA:Option Addr) (oc:Nat) (vs':List (List Value)),j<=n/\Q=I (j:Int)/\ov=.slice oA j oc/\Z (AT w wr oA j oc vs' (cols.take j))) (fun _ Q _=>n - (intOf Q).toNat)
 case atStart=>exact⟨0,none,0,[],C3 _,rfl,rfl,bZ ⟨bQ _ _ _ _,trivial,aa.refl _ _⟩⟩
 obtain⟨j,oA,oc,vs',hj,rfl,rfl,hO⟩:=hrel;obtain⟨wo,ex⟩:∃x,x=wr:=⟨_,rfl⟩;subst ex;by_cases eg:j<n
 ·have fk:(j:Int)<(n:Int):=by omega
  have wj:IntKind.i64.wrap ((j:Int)+1)=(j:Int)+1:=C0 _ (by omega);have dc:=hS.o.2.len;obtain⟨vs,bb⟩:∃vs,b7[j]? =some vs:=⟨_,CT (by rw[dc,hn.o];exact eg)⟩;obtain⟨J,c9,hT⟩:=hS.o.2.get j vs bb;obtain⟨g,off,hA,b1⟩:=hS.o.1.at_ (by
   have:=cy b7 5 hS.o.len j vs bb 0 (by decide);have h5:=hT.len;rcases DY b7.flatten.length with h0 | h0
   ·rw[Dh h0] at this;rw[List.getElem?_nil,CT (by omega)] at this;cases this
   exact h0)
  subst hA;have kO:=hO.o.2.2;have M:∀k v,vs[k]? =some v->wo.cell? (U g (off+(j*5+k)))=some v:=fun k v hk=>by
   have h5:=hT.len;have ee:k<5:=by have:=(CV.1 hk).1;omega
   exact kO.cellEq (b1 _ v (by rw[cy b7 5 hS.o.len j vs bb k ee];exact hk)) (by simp)
  obtain⟨N,cA,cc,kA,L,kc,fA,F,fc,hA,hm,hc,H,ks,fs,rfl,t2,t3,t4,t5,t6,t7,t8,t9,fx,e7,cp⟩:=hT.out_;have f0:=hT.hc;have x0:wo.cell? (U g (off+j*5))=_:=M 0 _ rfl;have x1:wo.cell? (U g (off+j*5+1))=_:=M 1 _ rfl;have x2:wo.cell? (U g (off+j*5+2))=_:=M 2 _ rfl;have x3:wo.cell? (U g (off+j*5+3))=_:=M 3 _ rfl;have x4:wo.cell? (U g (off+j*5+4))=_:=M 4 _ rfl;have ak:aa [] wo (wo.alloc (.cells #[.string N,.slice cA J cc,.slice kA L kc,.slice fA F fc,.slice hA hm hc] 32)):=(aa.refl [] wo).alloc _;have B5:=Blk.new wo 32 #[.string N,.slice cA J cc,.slice kA L kc,.slice fA F fc,.slice hA hm hc];have y1:=B5.cell 1;have e0:=kO.trans ak;have cr:=bZ (za (wo.alloc (.cells #[.string N,.slice cA J cc,.slice kA L kc,.slice fA F fc,.slice hA hm hc] 32)) cA H J cc t2 P (t4.move e0 (fun x _ E=>⟨by simp,E⟩)) (by omega) t3);have cs:Z (∀W,aa [] wo W->Calls Tryz.prog 114 #[.slice kA L kc] W (dV W 66 1 L ks)):=bZ (fun W k=>y8 W kA ks L kc (by omega) P (t7.move (kO.trans k) (fun x _ E=>⟨by simp,E⟩)) (by omega) (fun u hu=>by obtain⟨_,_,_,_,rfl,_⟩:=t8 u hu;rfl));have ct:Z (∀W,aa [] wo W->Calls Tryz.prog 116 #[.slice fA F fc] W (dV W 68 3 F fs)):=bZ (fun W k=>yZ W fA fs F fc t9 P (e7.move (kO.trans k) (fun x _ E=>⟨by simp,E⟩)) (by omega) (fun u hu=>by
   obtain⟨i,hi⟩:=DQ hu;have fi:=(CV.1 hi).1;obtain⟨x,y,z,f1,f2,f3,⟨_,_,_,_,rfl,_⟩,⟨_,rfl⟩,_,rfl⟩:=cp (i/3) (by omega);have ek:i=i/3*3\/i=i/3*3+1\/i=i/3*3+2:=by omega
   rcases ek with h | h | h
   ·rw[<-h] at f1;rw[f1] at hi;cases hi;rfl
   ·rw[<-h] at f2;rw[f2] at hi;cases hi;rfl
   rw[<-h] at f3;rw[f3] at hi;cases hi;rfl))
  have d3:=bZ (show ∀v∈ks,iB wo (fun _=>True) v from fun v hv=>(t8 v hv).move kO (fun x _ _=>⟨by simp,trivial⟩));have d0:=bZ (show ∀i,i<F->∃x y z,fs[i*3]? =some x/\fs[i*3+1]? =some y/\fs[i*3+2]? =some z/\tM wo (fun _=>True) x y z from fun i hi=>by
   obtain⟨x,y,z,f1,f2,f3,f4,f5⟩:=cp i hi;exact⟨x,y,z,f1,f2,f3,f4.move kO (fun x _ _=>⟨by simp,trivial⟩),f5⟩)
  replace t2:=bZ t2;replace t3:=bZ t3;replace B5:=bZ B5;replace ak:=bZ ak;replace c9:=bZ c9;clear M b1 hT t4 t5 t7 t8 t9 e7 cp e0 kO bb;go_wp2_with (first
   | (go_at_call 113;refine cr.o.mono ?_;rintro e w1 ⟨m,D,rfl,b9,a4⟩;have f1:=(B5.o.keep a4.o (by simp)).frozen 1;have g1:=(B5.o.keep a4.o (by simp)).cell 1;have ac:=bZ ((B5.o.keep a4.o (by simp)).set_ 1 (.slice m J D));have y2:=ac.o.cell 2;have bd:Z (aa [] wo (w1.setCell (U wo.heap.size 1) (.slice m J D))):=bZ ((ak.o.trans a4.o).setCell (.inr (C9 _)) _))
   | (go_at_call 114;refine(cs.o _ bd.o).mono ?_;rintro e w2 ⟨f,r,rfl,ch,a6⟩;have f2:=(ac.o.keep a6.o (by simp)).frozen 2;have g2:=(ac.o.keep a6.o (by simp)).cell 2;have cq:=bZ ((ac.o.keep a6.o (by simp)).set_ 2 (.slice f L r));have y3:=cq.o.cell 2;have ey:Z (aa [] wo (w2.setCell (U wo.heap.size 2) (.slice f L r))):=bZ ((bd.o.trans a6.o).setCell (.inr (C9 _)) _)))
  have en:=a4.o.size;have ck:Z (wo.heap.size<(wo.alloc (.cells #[.string N,.slice cA J cc,.slice kA L kc,.slice fA F fc,.slice hA hm hc] 32)).heap.size):=bZ B5.o.lt;have bi:=KB.start ch.o (bd.o.trans a6.o) (Dr ac.o.lt (C9 _)) _ d3.o;have dr:aa [wo.heap.size] w2 (w2.setCell (U wo.heap.size 2) (.slice f L r)):=(aa.refl [_] w2).setCell (.inl (by simp)) _;have d1:=bZ (bi.move dr (fun y hy=>.inl (by simpa using hy)));have d4:Mid wo w1 #[.string N,.slice cA J cc,.slice kA L kc,.slice fA F fc,.slice hA hm hc] m H []:=⟨B5.o.keep a4.o (by simp),ak.o.trans a4.o,(aL.own b9.o (by decide)).move (aa.refl [] _) (fun x hx E=>⟨by simp,by have:=(aw b9.o E).1;have:=ck.o;omega,by have:=(aw b9.o E).1;have:=ck.o;omega,by simp⟩)⟩;have d5:=((d4.put 1 (.slice m J D)).more a6.o (X':=fb f) (by simp) (fun x hx=>.inr (aw ch.o hx).1)).put 2 (.slice f L r);have hM:Z (Mid wo (w2.setCell (U wo.heap.size 2) (.slice f L r)) #[.string N,.slice m J D,.slice f L r,.slice fA F fc,.slice hA hm hc] m H (fb f)):=bZ d5;clear en ck bi dr d4 d5 ac cq bd ey b9 ch a4 a6 y1 y2 y3 f1 f2 g1 g2 cr cs d3 ak B5 x0 x1 x2 x3 x4;generalize w2.setCell (U wo.heap.size 2) (.slice f L r)=V00 at*;go_loopw [25] (fun Q wr=>∃i:Nat,i<=L/\Q=I (i:Int)/\Z (KB wr wo.heap.size wo.heap.size f L i)/\Z (Mid wo wr #[.string N,.slice m J D,.slice f L r,.slice fA F fc,.slice hA hm hc] m H (fb f))) (fun Q _=>L - (intOf Q).toNat)
  case atStart=>exact⟨0,C3 _,rfl,d1,hM⟩
  obtain⟨i,fd,rfl,a9,B⟩:=hrel;clear d1 hM;by_cases dl:i<L
  ·have fe:(i:Int)<(L:Int):=by omega
   have wi:IntKind.i64.wrap ((i:Int)+1)=(i:Int)+1:=C0 _ (by omega);rcases a9.o with h0 | ⟨gk,e8,rfl,ar,c6,cb,O⟩
   ·omega
   obtain⟨v,hv,qA,R,qc,qk,rfl,q1,q2,q3⟩:=O i dl;have z0:=B.o.blk.cell 2;have z1:wr.cell? (U gk i)=G qA R qc:=by rw[ar.cell];exact hv
   have f6:=bZ (ar.frozen i);have M:=bZ (show ∀W,aa [] wr W->Calls Tryz.prog 115 #[.slice qA R qc] W (lh W qk R) from fun W k=>jV W qA qk R qc q1 (ig (q3.move k (fun x _ E=>⟨by simp,E⟩))) (by omega));have b6:=bZ (show ∀X A4 c4,aY X A4 qk->(∀g∈fb A4,wr.heap.size<=g)->aa [] wr X->KB (X.setCell (U gk i) (.slice A4 R c4)) wo.heap.size wo.heap.size (V gk) L (i+1) from fun X A4 c4 a1 a2 a3=>KB.step ar c6 cb B.o.blk.lt (Nat.le_of_lt B.o.blk.lt) dl O q1 q2 a1 a2 a3);have b2:=bZ (show ∀X,aa [] wr X->X.cell? (U gk i)=G qA R qc/\X.frozen? (U gk i)=false from fun X k=>⟨k.cellEq z1 (by simp),(ar.keep k (by simp)).frozen i⟩);clear O hv q3 ar a9;go_wp2_with fail;refine ad (S:=(fun w':World=>w'.cell? (U wo.heap.size 2)=G (V gk) L r/\w'.cell? (U gk i)=G qA R qc)) (n:=10) (by kernel_rfl) ?_;have HS:wr.drew.cell? (U wo.heap.size 2)=G (V gk) L r/\wr.drew.cell? (U gk i)=G qA R qc:=⟨z0,z1⟩;have Y:Z (aa [] wr wr.drew):=bZ (aa.refl [] wr).drew;clear z0 z1;generalize wr.drew=wd at*;refine ord [0,1,2,3,4,5,6,7] ?_
   iterate 8 (refine tq HS ?_;try simp only[PT,Y1,Y2,Y3])
   refine av ?_;refine J1 8 fun K hK=>?_;dsimp only[Y1,Y2,Y3];go_simp;refine(M.o _ Y.o).mono ?_;rintro e w3 ⟨A4,c4,rfl,b0,b3,k4⟩;have T:Z (aa [] wr w3):=bZ (Y.o.trans k4.o);have HS:w3.cell? (U wo.heap.size 2)=G (V gk) L r/\w3.cell? (U gk i)=G qA R qc:=⟨k4.o.cellEq HS.1 (by simp),k4.o.cellEq HS.2 (by simp)⟩;have db:=(b2.o w3 T.o).2;refine hK _ _ (.inr HS) ?_;clear hK K
   try simp only[PT,Y1,Y2,Y3]
   refine ord [9] ?_
   (refine tq HS ?_;try simp only[PT,Y1,Y2,Y3])
   refine av ?_;refine JQ 10 ?_
   try simp only[PT,Y1,Y2,Y3]
   refine JD ?_;have bt:=bZ (b6.o w3 A4 c4 b0.o (fun g hg=>Dc Y.o.size (b3.o g hg).1) T.o);have c5:Z (Mid wo (w3.setCell (U gk i) (.slice A4 R c4)) #[.string N,.slice m J D,.slice (V gk) L r,.slice fA F fc,.slice hA hm hc] m H (fb (V gk))):=bZ ((B.o.more T.o (X':=fb (V gk)) (by simp) (fun x hx=>.inl hx)).more ((aa.refl [gk] w3).setCell (p:=(U gk i)) (.inl (by simp)) _) (fun y hy=>.inl ⟨by simpa [fb] using hy,by simp only[CZ] at hy;subst hy;omega⟩) (fun x hx=>.inl hx));clear b0 b3 k4 T Y b6 b2 M B;go_wp2_with fail;go_roundw
   case rel=>exact⟨i+1,by omega,by go_num,bt,c5⟩
   case measure=>simp[intOf];omega
  obtain rfl:i=L:=by omega
  obtain⟨wk,ew⟩:∃x,x=wr:=⟨_,rfl⟩;subst ew;obtain⟨bh,b5,bn,bp⟩:=a9.o.done;have y4:=B.o.blk.cell 3;have c7:=bZ B.o.blk.lt;go_wp2_with (go_at_call 116;refine(ct.o _ B.o.kp).mono ?_;rintro e w4 ⟨t,C,rfl,ba,a5⟩;have f4:=(B.o.blk.keep a5.o (by simp)).frozen 3;have g4:=(B.o.blk.keep a5.o (by simp)).cell 3;have y5:=((B.o.blk.keep a5.o (by simp)).set_ 3 (.slice t F C)).cell 3);have ep:=a5.o.size;have d7:=c7.o;have co:aa [wo.heap.size] w4 (w4.setCell (U wo.heap.size 3) (.slice t F C)):=(aa.refl [_] w4).setCell (.inl (by simp)) _;have cv:=bZ ((FB.start ba.o (B.o.kp.trans a5.o) c7.o _ d0.o).move co (fun y hy=>.inl (by simpa using hy)));have hM:Z (Mid wo (w4.setCell (U wo.heap.size 3) (.slice t F C)) #[.string N,.slice m J D,.slice f i r,.slice t F C,.slice hA hm hc] m H (fb f++fb t)):=bZ ((B.o.more a5.o (X':=fb f++fb t) (by simp) (fun x hx=>(CX.1 hx).elim .inl (fun h=>.inr (aw ba.o h).1))).put 3 (.slice t F C));have d2:Z (KD (w4.setCell (U wo.heap.size 3) (.slice t F C)) (fun x=>(wo.heap.size<=x/\x≠wo.heap.size)/\x∉fb t) f bh):=bZ ((KD.mk_ bn bp).move (a5.o.nil.trans co) (fun x hx E=>⟨by simpa using E.2,E,fun hm=>by have:=(aw ba.o hm).1;omega⟩));replace b5:=bZ b5;clear ep d7 co bn bp ba a5 B a9 y4 y5 f4 g4 ct d0 c7;generalize w4.setCell (U wo.heap.size 3) (.slice t F C)=V2 at*;go_loopw [46] (fun Q wr=>∃q:Nat,q<=F/\Q=I (q:Int)/\Z (FB wr wo.heap.size wo.heap.size t F q)/\Z (Mid wo wr #[.string N,.slice m J D,.slice f i r,.slice t F C,.slice hA hm hc] m H (fb f++fb t))/\Z (KD wr (fun x=>(wo.heap.size<=x/\x≠wo.heap.size)/\x∉fb t) f bh)) (fun Q _=>F - (intOf Q).toNat)
  case atStart=>exact⟨0,C3 _,rfl,cv,hM,d2⟩
  obtain⟨q,fr,rfl,a8,B,a0⟩:=hrel;clear cv hM d2;by_cases dn:q<F
  ·have fv:(q:Int)<(F:Int):=by omega
   have wi:IntKind.i64.wrap ((q:Int)+1)=(q:Int)+1:=C0 _ (by omega);rcases a8.o with h0 | ⟨gf,e8,rfl,b8,c6,cb,O⟩
   ·omega
   obtain⟨v,v2,v3,hv,es,ev,⟨qA,R,qc,qk,rfl,q1,q2,q3⟩,_⟩:=O q dn;have z0:=B.o.blk.cell 3;have z1:wr.cell? (U gf (q*3))=G qA R qc:=by rw[b8.cell];exact hv
   have M:=bZ (show ∀W,aa [] wr W->Calls Tryz.prog 115 #[.slice qA R qc] W (lh W qk R) from fun W k=>jV W qA qk R qc q1 (ig (q3.move k (fun x _ E=>⟨by simp,E⟩))) (by omega));have b6:=bZ (show ∀X A4 c4,aY X A4 qk->(∀g∈fb A4,wr.heap.size<=g)->aa [] wr X->FB (X.setCell (U gf (q*3)) (.slice A4 R c4)) wo.heap.size wo.heap.size (V gf) F (q+1) from fun X A4 c4 a1 a2 a3=>FB.step b8 c6 cb B.o.blk.lt (Nat.le_of_lt B.o.blk.lt) dn O q1 q2 a1 a2 a3);have b2:=bZ (show ∀X,aa [] wr X->X.cell? (U gf (q*3))=G qA R qc/\X.frozen? (U gf (q*3))=false from fun X k=>⟨k.cellEq z1 (by simp),(b8.keep k (by simp)).frozen _⟩);clear O hv es ev q3 b8 a8;go_wp2_with fail;refine ad (S:=(fun w':World=>w'.cell? (U wo.heap.size 3)=G (V gf) F C/\w'.cell? (U gf (q*3))=G qA R qc)) (n:=12) (by kernel_rfl) ?_;have HS:wr.drew.cell? (U wo.heap.size 3)=G (V gf) F C/\wr.drew.cell? (U gf (q*3))=G qA R qc:=⟨z0,z1⟩;have Y:Z (aa [] wr wr.drew):=bZ (aa.refl [] wr).drew;clear z0 z1;generalize wr.drew=wd at*;refine ord [0,1,2,3,4,5,6,7,8] ?_
   iterate 9 (refine tq HS ?_;try simp only[PT,Y1,Y2,Y3])
   refine av ?_;refine J1 9 fun K hK=>?_;dsimp only[Y1,Y2,Y3];go_simp;refine(M.o _ Y.o).mono ?_;rintro e w5 ⟨A4,c4,rfl,b0,b3,k4⟩;have T:Z (aa [] wr w5):=bZ (Y.o.trans k4.o);have HS:w5.cell? (U wo.heap.size 3)=G (V gf) F C/\w5.cell? (U gf (q*3))=G qA R qc:=⟨k4.o.cellEq HS.1 (by simp),k4.o.cellEq HS.2 (by simp)⟩;have db:=(b2.o w5 T.o).2;refine hK _ _ (.inr HS) ?_;clear hK K
   try simp only[PT,Y1,Y2,Y3]
   refine ord [10,11] ?_
   iterate 2 (refine tq HS ?_;try simp only[PT,Y1,Y2,Y3])
   refine av ?_;refine JQ 12 ?_
   try simp only[PT,Y1,Y2,Y3]
   refine JD ?_;have ec:=bZ (b6.o w5 A4 c4 b0.o (fun g hg=>Dc Y.o.size (b3.o g hg).1) T.o);have cd:aa [gf] w5 (w5.setCell (U gf (q*3)) (.slice A4 R c4)):=(aa.refl [gf] w5).setCell (p:=(U gf (q*3))) (.inl (by simp)) _;have c5:Z (Mid wo (w5.setCell (U gf (q*3)) (.slice A4 R c4)) #[.string N,.slice m J D,.slice f i r,.slice (V gf) F C,.slice hA hm hc] m H (fb f++fb (V gf))):=bZ ((B.o.more T.o (X':=fb f++fb (V gf)) (by simp) (fun x hx=>.inl hx)).more cd (fun y hy=>.inl ⟨by simp only[CZ] at hy;simp[fb,hy],by simp only[CZ] at hy;subst hy;omega⟩) (fun x hx=>.inl hx));have bt:Z (KD (w5.setCell (U gf (q*3)) (.slice A4 R c4)) (fun x=>(wo.heap.size<=x/\x≠wo.heap.size)/\x∉fb (V gf)) f bh):=bZ (a0.o.move (T.o.nil.trans cd) (fun x hx E=>⟨by have:=E.2;simpa [fb] using this,E⟩));clear b0 b3 k4 T Y b6 b2 M B a0 cd;go_wp2_with fail;go_roundw
   case rel=>exact⟨q+1,by omega,by go_num,ec,c5,bt⟩
   case measure=>simp[intOf];omega
  obtain rfl:q=F:=by omega
  obtain⟨e9,da,bk,bl⟩:=a8.o.done;have B6:=B.o.blk.set_ 4 (.slice none 0 0);have f4:=B.o.blk.frozen 4;have g4:=B.o.blk.cell 4;have c0:=B6.cell 0;have c1:=B6.cell 1;have c2:=B6.cell 2;have c3:=B6.cell 3;have c4:=B6.cell 4;have k6:aa [] wo (wr.setCell (U wo.heap.size 4) (.slice none 0 0)):=B.o.kp.setCell (.inr (C9 _)) _;have ds:aa [wo.heap.size] wr (wr.setCell (U wo.heap.size 4) (.slice none 0 0)):=(aa.refl [_] wr).setCell (.inl (by simp)) _;have k7:aa [] wo ((wr.setCell (U wo.heap.size 4) (.slice none 0 0)).alloc (.cells #[.string N,.slice m J D,.slice f i r,.slice t q C,.slice none 0 0] 32)):=k6.alloc _;have an:aa [wo.heap.size] wr ((wr.setCell (U wo.heap.size 4) (.slice none 0 0)).alloc (.cells #[.string N,.slice m J D,.slice f i r,.slice t q C,.slice none 0 0] 32)):=ds.alloc _;have d6:Z (oO ((wr.setCell (U wo.heap.size 4) (.slice none 0 0)).alloc (.cells #[.string N,.slice m J D,.slice f i r,.slice t q C,.slice none 0 0] 32)) (fun x=>wo.heap.size<=x/\x≠wo.heap.size) [.string N,.slice m J D,.slice f i r,.slice t q C,.slice none 0 0] J):=bZ
   ⟨⟨N,m,D,f,i,r,t,q,C,none,0,0,H,bh,e9,rfl,t2.o,t3.o,B.o.col.move an (fun x _ E=>⟨by simpa using E.2.1,E.1,E.2.1⟩),b5.o,by omega,a0.o.1.move an (fun x _ E=>⟨by simpa using E.1.2,E.1⟩),fun v hv=>(a0.o.2 v hv).move an (fun x _ E=>⟨by simpa using E.1.2,E.1⟩),da,by omega,bk.move an (fun x _ E=>⟨by simpa using E.2,E⟩),
    fun s hs=>by
     obtain⟨a,b,d,e1,e2,e3,e4,e5,e6⟩:=bl s hs;exact⟨a,b,d,e1,e2,e3,e4.move an (fun x _ E=>⟨by simpa using E.2,E⟩),e5,e6⟩⟩,f0⟩
  have dq:=bZ (ab hO.o.1 k7);have B9:=bZ (Blk.new (wr.setCell (U wo.heap.size 4) (.slice none 0 0)) 32 #[.string N,.slice m J D,.slice f i r,.slice t q C,.slice none 0 0]);have er:Z (w.heap.size<=((wr.setCell (U wo.heap.size 4) (.slice none 0 0)).alloc (.cells #[.string N,.slice m J D,.slice f i r,.slice t q C,.slice none 0 0] 32)).heap.size):=bZ (Dc hO.o.2.2.size k7.size);have bs:=bZ (show ∀W6 a7 ap,aa (fb oA) ((wr.setCell (U wo.heap.size 4) (.slice none 0 0)).alloc (.cells #[.string N,.slice m J D,.slice f i r,.slice t q C,.slice none 0 0] 32)) W6->(∀g∈fb a7,g∈fb oA\/((wr.setCell (U wo.heap.size 4) (.slice none 0 0)).alloc (.cells #[.string N,.slice m J D,.slice f i r,.slice t q C,.slice none 0 0] 32)).heap.size<=g)->W6.ownsRow w.heap.size 32 5 (.slice a7 (j+1) ap) (j+1) (vs'.flatten++[.string N,.slice m J D,.slice f i r,.slice t q C,.slice none 0 0])->
   AT w W6 a7 (j+1) ap (vs'++[[.string N,.slice m J D,.slice f i r,.slice t q C,.slice none 0 0]]) (cols.take (j+1)) from fun W6 a7 ap a1 a2 a3=>xO hO.o rfl k7 c9.o d6.o a1 a2 a3)
  have c8:(wr.setCell (U wo.heap.size 4) (.slice none 0 0)).heap.size=wr.heap.size:=by simp
  rw[c8] at B9;replace c8:=bZ c8;clear B6 k6 ds k7 an d6 bk bl a8 B a0 hO;go_wp2_with (at_builtin;refine ae (by rfl) (.tmp 63) (.tmp 65) 23 rfl w.heap.size 32 i0 (.agg #[.string ⟨#[]⟩,.slice none 0 0,.slice none 0 0,.slice none 0 0,.slice none 0 0]) 5 112 Tryz.underlying23 hi.o cl.o cm.o cn.o rfl (by decide) (.slice oA j oc) j vs'.flatten rfl dq.o (V wr.heap.size) 1 1 [.string N,.slice m J D,.slice f i r,.slice t q C,.slice none 0 0] rfl rfl (aI (off:=0) (l:=[.string N,.slice m J D,.slice f i r,.slice t q C,.slice none 0 0]) B9.o (by simp) 1) (by simp[Value.oneCell']) (by unfold maxLen;omega) (by omega) er.o ?_;intro v6 w6 q1 q2 _ q4;obtain⟨a7,ap,rfl,O6,K6,N6⟩:=bR (A:=oA) (n:=j) (c:=oc) q1 q2 q4);have b4:=bZ (bs.o w6 a7 ap K6.o N6.o O6.o);clear bs K6 N6 O6 dq B9 q1 q2 q4;go_roundw
  case rel=>exact⟨j+1,a7,ap,_,by omega,by go_num,rfl,b4⟩
  case measure=>simp[intOf];omega
 obtain rfl:j=n:=by omega
 have b4:Z (sw w j cols (.returned (.slice oA j oc)) wo):=bZ ⟨oA,oc,vs',rfl,bZ ⟨(aL.own hO.o.1 (by decide)).move (aa.refl [] _) (fun x _ E=>⟨by simp,(aw hO.o.1 E).1⟩),by
  have:=hO.o.2.1;rw[C6 (by rw[hn.o];exact C9 _)] at this;exact this.mono (fun v _ d _ ht=>ht.move (aa.refl [] _) (fun x _ E=>⟨by simp,E.1⟩))⟩,bZ hO.o.2.2⟩
 clear hO hS;go_wp2_with fail;go_ret;exact b4.o
end Go.Proofs.YtmlmfpikncogpaaGreat
